import Derived.Test.YtfeekmmfdkfgmaaGreatDoorHslots
import Derived.Test.YtfeekmmfdkfgmaaGreatDoorGCoreB
import Derived.Test.YtfeekmmfdkfgmaaGreatDoorGAsk
import Derived.Test.YtfeekmmfdkfgmaaGreatDoorGRefC
import Derived.Test.YtfeekmmfdkfgmaaGreatDoorGLaw
import Derived.Test.YtfeekmmfdkfgmaaGreatDoorHsh
import Derived.Test.YtfeekmmfdkfgmaaGreatDoorHplane
import Derived.Test.YtfeekmmfdkfgmaaGreatDoorHof
import Derived.Test.YtfeekmmfdkfgmaaGreatDoorGLawC
/-
Handles loaded from the places that are given (layer 3's program), where one level is enough or too many are asked.
Conditions: those that each theorem states.
-/
set_option linter.unusedVariables false
set_option linter.unusedSimpArgs false
namespace Go.Proofs.YtfeekmmfdkfgmaaGreatDoor
open Go Go.RowKit
set_option linter.unnecessarySimpa false
namespace Core
set_option linter.ambiguousOpen false
open Seq Cut Web
def pz (p:Int × Int):List Value:=[.int .u32 p.1,.int .i64 p.2]
def oddP (p:Int × Int):Bool:=if p.2==0 then p.1==4294967295 else if p.2==1 then p.1==0 else if p.2==2 then p.1 != 4294967295 else true
def okA (n:Int) (X:List (Int × Int)):Prop:=(1≤n∧n≤1048576)∧(X.length:Int)≤n∧X.any oddP=false∧∀p,X[X.length-1]?=some p→p.1≠0
def toP (X:List (Int × Int)):List (Nat × Nat):=X.map fun p=>(p.1.toNat,p.2.toNat)
theorem Qf1 {X:List (Int × Int)}:(toP X).length=X.length:=List.length_map ..
theorem Q4a {p:Int × Int} (h:oddP p=false):(p.2=0∧p.1≠4294967295)∨(p.2=1∧p.1≠0)∨(p.2=2∧p.1=4294967295):=by
 unfold oddP at h
 split at h
 ·rename_i h0;exact .inl ⟨by simpa using h0,by simpa using h⟩
 ·split at h
  ·rename_i h0;exact .inr (.inl ⟨by simpa using h0,by simpa using h⟩)
  ·split at h
   ·rename_i h0;exact .inr (.inr ⟨by simpa using h0,by simpa using h⟩)
   ·cases h
theorem Qmf {X:List (Int × Int)} {i:Nat} {p:Int × Int} (h:X.any oddP=false) (hp:X[i]?=some p):oddP p=false:=by
 rw [List.any_eq_false] at h
 simpa using h p (List.mem_of_getElem? hp)
section
variable {w w':World} {X:List (Int × Int)} {b:Option Addr} {c:Nat}
theorem Q2z {i j:Nat} {p:Int × Int} (hp:X[i]?=some p) (hj:j<2):(X.flatMap pz)[i*2+j]?=(pz p)[j]?:=Go.Proofs.YtfeekmmfdkfgmaaGreatDoor.Qku (enc:=pz) (sz:=2) (fun _=>rfl) hp hj
theorem ldz {i:Nat} {p:Int × Int} (va:VA w b X.length 2 (X.flatMap pz)) (hp:X[i]?=some p) {K:Int→Int→Prop} (k:K p.1 p.2):ixS b X.length (i:Int) 2 fun a=>ldI .u32 a w fun x=>ldI .i64 (a.add 1) w fun y=>K x y:=by
 have hi:i<X.length:=(List.getElem?_eq_some_iff.1 hp).1
 refine va.ix hi fun g o e cs rg _ hc=>?_
 rw [Qad]
 refine Qaf (n:=p.1) rg ?_ (Qaf (n:=p.2) rg ?_ k)
 ·have:=hc 0 (by omega);rw [Nat.add_zero] at this;rw [this]
  exact Go.Proofs.YtfeekmmfdkfgmaaGreatDoor.Qku (enc:=pz) (sz:=2) (fun _=>rfl) (j:=0) hp (by decide)
 ·rw [hc 1 (by omega)]
  exact Go.Proofs.YtfeekmmfdkfgmaaGreatDoor.Qku (enc:=pz) (sz:=2) (fun _=>rfl) (j:=1) hp (by decide)
theorem ldz0 {i:Nat} {p:Int × Int} (va:VA w b X.length 2 (X.flatMap pz)) (hp:X[i]?=some p) {K:Int→Prop} (k:K p.1):ixS b X.length (i:Int) 2 fun a=>ldI .u32 a w K:=by
 have hi:i<X.length:=(List.getElem?_eq_some_iff.1 hp).1
 refine va.ix hi fun g o e cs rg _ hc=>Qaf (n:=p.1) rg ?_ k
 have:=hc 0 (by omega);rw [Nat.add_zero] at this;rw [this]
 exact Go.Proofs.YtfeekmmfdkfgmaaGreatDoor.Qku (enc:=pz) (sz:=2) (fun _=>rfl) (j:=0) hp (by decide)
theorem ldz1 {i:Nat} {p:Int × Int} (va:VA w b X.length 2 (X.flatMap pz)) (hp:X[i]?=some p) {K:Int→Prop} (k:K p.2):ixS b X.length (i:Int) 2 fun a=>ldI .i64 (a.add 1) w K:=by
 have hi:i<X.length:=(List.getElem?_eq_some_iff.1 hp).1
 refine va.ix hi fun g o e cs rg _ hc=>?_
 rw [Qad]
 refine Qaf (n:=p.2) rg ?_ k
 rw [hc 1 (by omega)]
 exact Go.Proofs.YtfeekmmfdkfgmaaGreatDoor.Qku (enc:=pz) (sz:=2) (fun _=>rfl) (j:=1) hp (by decide)
theorem Zm7 (p:Int × Int):Calls Pg 111 #[.agg #[.int .u32 p.1,.int .i64 p.2]] w fun r w'=>r=.returned (.bool (oddP p))∧Chg Qaa w w':=by
 refine (Q14 _ _).go ?_
 unfold Qzr nr
 refine Qak fun A w3 hA c3 r3=>?_
 rw [Qad]
 unfold oddP
 refine Qaf (n:=p.2) r3 rfl (Qac (fun k=>Qaf (n:=p.1) r3 rfl ⟨?_,c3⟩) (fun k=>Qac (fun k1=>Qaf (n:=p.1) r3 rfl ⟨?_,c3⟩) (fun k1=>Qac (fun k2=>Qaf (n:=p.1) r3 rfl ⟨?_,c3⟩) (fun k2=>⟨?_,c3⟩))))
 ·rw [if_pos k]
 ·rw [if_neg (by rw [k];decide),if_pos k1]
 ·rw [if_neg (by rw [k];decide),if_neg (by rw [k1];decide),if_pos k2]
 ·rw [if_neg (by rw [k];decide),if_neg (by rw [k1];decide),if_neg (by rw [k2];decide)]
theorem Zja (va:VA w b X.length 2 (X.flatMap pz)) (hl:X.length≤1000000000) :
  Calls Pg 110 #[.slice b X.length c,.func (.func 111) #[] #[]] w fun r w'=>r=.returned (.bool (X.any oddP))∧Chg Qaa w w':=by
 refine (Qbs _ _ _ _ _ (fun v' w'=>v'=.bool (X.any oddP)∧Chg Qaa w w') ?_).mono rti
 unfold Qa7 nr
 refine (Qbx _ _ _ _ _ (fun v' w'=>∃n:Int,v'=.int .i64 n∧(n ≥ 0↔X.any oddP=true)∧Chg Qaa w w') ?_).mono ?_
 ·unfold Qbi nr
  let J:Nat→List Value→World→Prop:=fun j vs w'=>∃i:Nat,vs=[.int .i64 i]∧i≤X.length∧(∀x,x∈X.take i→oddP x=false)∧Chg Qaa w w'∧j=X.length-i
  refine ⟨LI J,LM J,⟨_,0,rfl,by omega,by simp,Chg.refl _ _,rfl⟩,?_⟩
  intro _ i w5 hJ
  obtain ⟨i,hvs,hi,hp,ck,hj⟩:=hJ.at
  simp only [vj] at hvs
  subst hvs
  refine Qac (fun hlt=>?_) (fun hlt=>?_)<;>simp only [b1s] at hlt
  ·obtain ⟨x,hx⟩:∃x,X[i]?=some x:=⟨_,List.getElem?_eq_getElem (by omega)⟩
   have hxm:=List.mem_of_getElem? hx
   refine ldz (va.nob ck) hx (Zcg (g:=111) (show Eall.contains 111=true by kernel_rfl) ((Zm7 x).mono ?_))
   rintro r w9 ⟨rfl,c9⟩
   refine ⟨_,rfl,Qac (fun k=>⟨_,rfl,⟨fun _=>List.any_eq_true.2 ⟨x,hxm,k⟩,fun _=>by omega⟩,ck.trans c9⟩) (fun k=>?_)⟩
   rw [wrap64_in (by omega) (by omega)]
   refine LI.again (k:=X.length-(i+1)) ⟨i+1,rfl,by omega,fun y hy=>?_,ck.trans c9,rfl⟩ (by rw [hj];omega)
   rw [List.take_add_one,hx] at hy
   rcases List.mem_append.1 hy with hy | hy
   ·exact hp y hy
   ·simp at hy;rw [hy];exact k
  ·refine ⟨_,rfl,⟨fun h=>by omega,fun h=>?_⟩,ck⟩
   obtain ⟨x,hxm,k⟩:=List.any_eq_true.1 h
   rw [List.take_of_length_le (by omega)] at hp
   rw [hp x hxm] at k;cases k
 ·rintro r w3 ⟨v,rfl,n,rfl,h,ck⟩
  refine ⟨_,rfl,?_,ck⟩
  congr 1
  rw [Bool.eq_iff_iff,decide_eq_true_iff];exact h
theorem Q7c {i:Nat} {p:Int × Int} (hp:X[i]?=some p):(toP X)[i]?=some (p.1.toNat,p.2.toNat):=by
 unfold toP;rw [List.getElem?_map,hp];rfl
theorem Qsa {P:List (Nat × Nat)} {i:Nat}:tkn (P.take i) i=false:=by
 unfold tkn;rw [List.getElem?_take,if_neg (by omega)]
theorem Qw6 {P:List (Nat × Nat)} {i:Nat} {p:Nat × Nat} (hp:P[i]?=some p):tkn (P.take (i+1))=upd (tkn (P.take i)) i (p.2 != 0):=by
 funext j
 unfold tkn upd
 by_cases e:j=i
 ·subst e;rw [if_pos rfl,List.getElem?_take,if_pos (by omega),hp]
 ·rw [if_neg e,List.getElem?_take]
  show _=(match (P.take i)[j]? with | some p=>p.2 != 0 | none=>false)
  rw [List.getElem?_take]
  by_cases h:j<i
  ·rw [if_pos (by omega),if_pos h];rfl
  ·rw [if_neg (by omega),if_neg h]
theorem Q3n {P:List (Nat × Nat)} {i:Nat} {p:Nat × Nat} (hp:P[i]?=some p) (h:p.2=0):tkn (P.take (i+1))=tkn (P.take i):=by
 rw [Qw6 hp,h]
 funext j
 unfold upd
 split
 ·rename_i e;subst e;rw [Qsa];rfl
 ·rfl
theorem Qhx {P:List (Nat × Nat)} {i:Nat} {p:Nat × Nat} (hp:P[i]?=some p):lvn (P.take (i+1))=lvn (P.take i)+(if p.2=1 then 1 else 0):=by
 rw [List.take_add_one,hp]
 exact Za9
theorem Q62 {n:Nat} (h0:1≤n) (h1:n≤1048576):Calls Pg 99 #[.int .i64 n] w fun r w'=>∃A S hi,r=.returned (.tuple #[.pointer (some ⟨A,0,none⟩),errV 0])∧Chg Qaa w w'∧Row w'.heap A 188 [.int .i64 n,.slice none 0 0,.pointer (some ⟨S,0,none⟩),.int .i64 0]∧SG w' w.heap.size hi S n (fun _=>false)∧hi≤A∧w.heap.size≤S∧S<hi:=by
 refine (Qio _).go ?_
 unfold Qjg nr
 refine (Zkr h0 h1).mono ?_
 rintro r w3 ⟨S,rfl,hc,hs⟩
 have bS:w.heap.size≤S∧S<w3.heap.size:=by
  obtain ⟨_,_,_,_,_,_,sk,_⟩:=hs.ex
  exact sk.s
 exact ⟨_,_,rfl,Qaj (fun e=>absurd rfl e) (fun _=>Qak fun A w4 hA c4 r4=>⟨A,S,_,rfl,hc.trans c4,r4,hs.nob c4,hA,bS.1,bS.2⟩)⟩
theorem Q0v {n:Int} (va:VA w b X.length 2 (X.flatMap pz)) (hX:∀p∈X,0≤p.1∧p.1<4294967296) (hl:X.length≤1000000000) :
  Calls Pg 40 #[.int .i64 n,.slice b X.length c] w fun r w'=>Chg Qaa w w'∧(¬okA n X→r=.returned (.tuple #[.pointer none,errV 1]))∧
   (okA n X→∃A S L W b' c',r=.returned (.tuple #[.pointer (some ⟨A,0,none⟩),errV 0])∧AQ w' A S L W n.toNat (toP X) b' c'∧w.heap.size≤A∧w.heap.size≤S∧w.heap.size≤L∧w.heap.size≤W∧∀g,bk b'=some g→w.heap.size≤g):=by
 refine (Qrt _ _ _ _).go ?_
 unfold Qqn nr
 by_cases hb:1≤n∧n≤1048576
 case neg=>
  refine (Q9r hb).mono ?_
  rintro r w4 ⟨rfl,rfl⟩
  exact ⟨_,_,rfl,Qaj (fun _=>⟨Chg.refl _ _,fun _=>rfl,fun h=>absurd h.1 hb⟩) (fun e=>absurd e (by decide))⟩
 obtain ⟨N,rfl⟩:∃N:Nat,n=N:=⟨n.toNat,by omega⟩
 rw [Int.toNat_natCast]
 refine (Q62 (n:=N) (by omega) (by omega)).mono ?_
 rintro r w4 ⟨A,S,eh,rfl,c4,ar,z4,b1,b2,b3⟩
 refine ⟨_,_,rfl,Qaj (fun e=>absurd rfl e) (fun _=>⟨fun vs w'=>vs=[]∧Chg Qaa w4 w'∧okA N X,?_,?_⟩)⟩
 ·refine Qac (fun k=>?_) (fun k=>?_)<;>simp only [b1s] at k
  ·exact ⟨c4,fun _=>rfl,fun h=>absurd h.2.1 (by omega)⟩
  refine (Zja (va.nob c4) hl).mono ?_
  rintro r w8 ⟨rfl,c8⟩
  refine ⟨_,rfl,Qac (fun k1=>⟨c4.trans c8,fun _=>rfl,fun h=>absurd h.2.2.1 (by rw [k1];decide)⟩) (fun k1=>Qac (fun k2=>?_) (fun k2=>?_))⟩<;>simp only [b1s] at k2
  ·obtain ⟨p,hp⟩:∃p,X[X.length-1]?=some p:=⟨_,List.getElem?_eq_getElem (by omega)⟩
   rw [wrap64_in (by omega) (by omega),show ((X.length:Int)-1)=((X.length-1:Nat):Int) by omega]
   refine ldz0 (va.nob (c4.trans c8)) hp (Qac (fun k3=>?_) (fun k3=>?_))
   ·exact ⟨c4.trans c8,fun _=>rfl,fun h=>absurd (eq_of_beq k3) (h.2.2.2 p hp)⟩
   ·refine ⟨rfl,c8,hb,by omega,k1,fun q hq=>?_⟩
    rw [hp] at hq;cases hq
    intro e;rw [e] at k3;cases k3
  ·refine ⟨rfl,c8,hb,by omega,k1,fun q hq=>?_⟩
   have:=(List.getElem?_eq_some_iff.1 hq).1;omega
 ·rintro _ w12 ⟨_,c12,ok⟩
  obtain ⟨_,o1,o2,o3⟩:=ok
  have hpc:X.flatMap pz=(toP X).flatMap pcl:=by
   unfold toP
   rw [List.flatMap_map]
   have:∀Y:List (Int × Int),(∀p∈Y,p∈X)→Y.flatMap pz=Y.flatMap fun p=>pcl (p.1.toNat,p.2.toNat):=by
    intro Y
    induction Y with
    | nil=>intro _;rfl
    | cons p Y ih=>
     intro hY
     have hpX:=hY p (by simp)
     have h1:=hX p hpX
     have h2:=Q4a (Qmf o2 (List.getElem?_eq_some_iff.2 ⟨_,(List.getElem_of_mem hpX).choose_spec.choose_spec⟩))
     rw [List.flatMap_cons,List.flatMap_cons,ih fun q hq=>hY q (by simp [hq])]
     congr 1
     unfold pz pcl
     rw [Int.toNat_of_nonneg h1.1,Int.toNat_of_nonneg (by omega)]
   exact this X fun _ h=>h
  have v12:=va.nob (c4.trans c12)
  refine (Q7x v12 (by
   intro u hu
   obtain ⟨p,_,hu⟩:=List.mem_flatMap.1 hu
   simp [pz] at hu
   rcases hu with rfl | rfl<;>rfl) hl).mono ?_
  rintro r w14 ⟨b',c',rfl,ho,c14,_⟩
  rw [hpc] at ho
  have a14:=(c12.trans c14).row (fun h=>h) ar
  have s12:=c12.size
  have s4:=c4.size
  have s14:=c14.size
  have tA:=ar.lt
  have nA:∀g,g=A→¬(w.heap.size≤g∧g<eh):=fun g e k=>by omega
  have hap:∀g,bk b'=some g→w12.heap.size≤g:=fun g hg=>(ho.Qar hg).1
  refine ⟨_,_,_,rfl,pt_i ?_⟩
  rw [Qad]
  refine Qao a14 (by simp) rfl fun w17 c17 r17=>?_
  have ho17:=ho.keep c17 fun g hg e=>by have:=hap g hg;omega
  have hs17:=(z4.nob (c12.trans c14)).keep c17 nA
  have c017:Chg Qaa w w17:=((c4.trans c12).trans c14).trans' c17 fun k e=>.inr (by omega)
  let J:Nat→List Value→World→Prop:=fun j vs w'=>∃i:Nat,vs=[.int .i64 i]∧i≤X.length∧Row w'.heap A 188 [.int .i64 N,.slice b' X.length c',.pointer (some ⟨S,0,none⟩),.int .i64 (lvn ((toP X).take i):Nat)]∧Own w' w12.heap.size 120 2 b' X.length c' ((toP X).flatMap pcl)∧SG w' w.heap.size eh S N (tkn ((toP X).take i))∧Chg Qaa w w'∧j=X.length-i
  refine ⟨LI J,LM J,⟨_,0,rfl,by omega,?_,ho17,?_,c017,rfl⟩,?_⟩
  ·rw [List.take_zero];exact r17
  ·rw [List.take_zero,show tkn []=fun _=>false from by funext i;simp [tkn]];exact hs17
  intro _ i w21 hJ
  obtain ⟨i,hvs,hi,rA,oA,sA,ck,hj⟩:=hJ.at
  simp only [vj] at hvs
  subst hvs
  refine Qac (fun hlt=>?_) (fun hlt=>?_)<;>simp only [b1s] at hlt
  ·obtain ⟨p,hp⟩:∃p,X[i]?=some p:=⟨_,List.getElem?_eq_getElem (by omega)⟩
   have hq:=Q7c hp
   have hpX:=hX p (List.mem_of_getElem? hp)
   have hod:=Q4a (Qmf o2 hp)
   rw [wrap64_in (by omega) (by omega),show ((i:Int)+1)=((i+1:Nat):Int) by omega]
   refine ldz (va.nob ck) hp (Qak fun B w26 hB c26 r26=>Qao r26 (by simp) rfl fun w27 c27 r27=>?_)
   rw [Qad]
   refine Qao r27 (by simp) rfl fun w28 c28 r28=>?_
   have hB':w21.heap.size≤B:=hB
   have s0:=ck.size
   have c2128:Chg Qaa w21 w28:=(c26.trans' c27 fun k e=>.inr (by omega)).trans' c28 fun k e=>.inr (by omega)
   have rA8:=c2128.row (fun h=>h) rA
   have oA8:=oA.keep c2128 fun _ _ h=>h
   have sA8:=sA.nob c2128
   have hAw:=rA.lt
   refine Qaf (n:=p.2) r28 rfl (Qac (fun k=>?_) (fun k=>?_))
   ·have e0:p.2=0:=eq_of_beq k
    have e1:(p.1.toNat,p.2.toNat).2=0:=by show p.2.toNat=0;omega
    refine LI.again (k:=X.length-(i+1)) ⟨i+1,rfl,by omega,?_,oA8,?_,ck.trans c2128,rfl⟩ (by rw [hj];omega)
    ·rw [Qhx hq,if_neg (by rw [e1];decide),Nat.add_zero];exact rA8
    ·rw [Q3n hq e1];exact sA8
   ·have e0:p.2≠0:=fun e=>by rw [e] at k;cases k
    have hne:((p.1.toNat,p.2.toNat).2 != 0)=true:=by show (p.2.toNat != 0)=true;rw [bne_iff_ne];omega
    have hiN:i<N:=by omega
    refine pt_i ?_
    rw [Qad]
    refine Qav rA8 rfl ((Zdq sA8 hiN Qsa).mono ?_)
    rintro r w33 ⟨rfl,sA33,c33⟩
    have sA':SG w33 w.heap.size eh S N (tkn ((toP X).take (i+1))):=by rw [Qw6 hq,hne];exact sA33
    have r33:Row w33.heap B _ _:=c33.row (fun h=>by omega) r28
    have rA33:=c33.row (fun h=>by omega) rA8
    have oA33:=oA8.keep c33 fun g hg e=>by have:=(oA.Qar hg).1;omega
    have cw33:Chg Qaa w w33:=(ck.trans c2128).trans' c33 fun k e=>.inr e.1
    refine ⟨_,rfl,Qaj (fun e=>absurd rfl e) (fun _=>Qaf (n:=p.2) r33 rfl (Qac (fun k2=>pt_i ?_) (fun k2=>?_)))⟩
    ·have e2:p.2=1:=eq_of_beq k2
     have e1:(p.1.toNat,p.2.toNat).2=1:=by show p.2.toNat=1;omega
     have hlv:lvn ((toP X).take i)≤X.length:=by
      have:=Za8 (P:=(toP X).take i)
      rw [List.length_take,Qf1] at this;omega
     rw [Qad]
     refine Qaf rA33 rfl (pt_i ?_)
     rw [Qad,wrap64_in (by omega) (by omega)]
     refine Qao rA33 (by simp) rfl fun w39 c39 rA39=>?_
     refine LI.again (k:=X.length-(i+1)) ⟨i+1,rfl,by omega,?_,oA33.keep c39 (fun g hg e=>by have:=(oA.Qar hg).1;omega),sA'.keep c39 nA,cw33.trans' c39 (fun k e=>.inr (by omega)),rfl⟩ (by rw [hj];omega)
     rw [Qhx hq,if_pos e1]
     simpa using rA39
    ·have e1:(p.1.toNat,p.2.toNat).2≠1:=by
      show p.2.toNat≠1
      intro e
      have:p.2=1:=by omega
      rw [this] at k2;cases k2
     refine LI.again (k:=X.length-(i+1)) ⟨i+1,rfl,by omega,?_,oA33,sA',cw33,rfl⟩ (by rw [hj];omega)
     rw [Qhx hq,if_neg e1,Nat.add_zero];exact rA33
  ·have hiX:i=X.length:=by omega
   subst hiX
   rw [List.take_of_length_le (by rw [Qf1];omega)] at rA sA
   refine ⟨ck,fun h=>absurd ⟨hb,o1,o2,o3⟩ h,fun _=>⟨A,S,S,S,b',c',rfl,⟨by rw [Qf1];exact rA,by rw [Qf1];exact oA.mono (Nat.zero_le _),by rw [Qf1];omega,fun q hq=>?_,fun g hg=>by have:=hap g hg;omega,by omega,by have:=rA.lt;omega⟩,by omega,b2,b2,b2,fun g hg=>by have:=hap g hg;omega⟩⟩
   unfold toP at hq
   obtain ⟨p,hp,rfl⟩:=List.mem_map.1 hq
   have h1:=hX p hp
   obtain ⟨j,hj',hj2⟩:=List.getElem_of_mem hp
   have h2:=Q4a (Qmf o2 (List.getElem?_eq_some_iff.2 ⟨hj',hj2⟩))
   refine ⟨?_,?_,?_⟩
   ·show p.1.toNat<_;omega
   ·show p.2.toNat<3;omega
   ·show p.2.toNat=0→p.1.toNat<_;omega
end
def pairT (P:Program) (k:IntKind) (t:TypeId):Bool:=match P.underlying t with
 | some (.array n e)=>Nat.beq n 2&&(P.info? t).isSome&&Nat.beq (P.cellsOf t) 2&&(P.info? e).isSome&&Nat.beq (P.cellsOf e) 1&&(match P.underlying e with | some (.int k')=>decide (k'=k) | _=>false)
 | _=>false
def edgeT (P:Program) (k k2:IntKind):List Field→Bool
 | [f, g, h] => (decide (f.name ≠ "_") && Nat.beq f.offset 0 && pairT P k f.type) && (decide (g.name ≠ "_") && Nat.beq g.offset 2 && pairT P k g.type) && (decide (h.name ≠ "_") && Nat.beq h.offset 4 && (match P.underlying h.type with | some (.int k') => decide (k' = k2) | _ => false))
 | _=>false
section
variable {P:Program} {w:World} {k k2:IntKind} {t:TypeId}
theorem Qux (h:pairT P k t=true) {xs:Array Value} {o:Nat} {x y:Int} (e:xs.extract o (o+2)=#[.int k x,.int k y]):(part t xs o).run P w=.ok (.agg #[.int k x,.int k y]) w:=by
 unfold pairT at h
 split at h
 case h_2=>cases h
 rename_i n e' hu
 simp only [Bool.and_eq_true] at h
 obtain ⟨i,hi⟩:=Option.isSome_iff_exists.1 h.1.1.1.1.2
 have hc:P.cellsOf t=2:=Nat.eq_of_beq_eq_true h.1.1.1.2
 simp [part,isAgg,run_underlying hu,run_sizeOf w hi,hc,e]
theorem Q7z (h:pairT P k t=true) (d:Nat) {x y a b:Int}:(Op.equalIn (d+1+1) t (.agg #[.int k x,.int k y]) (.agg #[.int k a,.int k b])).run P w=.ok (x==a&&y==b) w:=by
 unfold pairT at h
 split at h
 case h_2=>cases h
 rename_i n e' hu
 simp only [Bool.and_eq_true] at h
 obtain rfl:n=2:=Nat.eq_of_beq_eq_true h.1.1.1.1.1
 obtain ⟨i,hi⟩:=Option.isSome_iff_exists.1 h.1.1.2
 have hz:P.cellsOf e'=1:=Nat.eq_of_beq_eq_true h.1.2
 have he:P.underlying e'=some (.int k):=by
  have:=h.2
  split at this
  ·rename_i k' hk;rw [decide_eq_true_iff] at this;rw [hk,this]
  ·cases this
 rw [run_equalIn_array w (d+1) _ _ hu hi,hz]
 have e2:List.range 2=[0,1]:=rfl
 rw [e2]
 simp only [Op.eqItems]
 rw [Qae (Qdl (v:=.int k x) he rfl),Qae (Qdl (v:=.int k a) he rfl),Qae (run_equalIn_int w d e' k k x a he)]
 cases h1:(x==a)
 ·simp [go_sem,h1]
 ·simp only [h1,decide_true,Bool.true_and,Bool.not_true,Bool.false_eq_true,if_false]
  rw [Qae (Qdl (v:=.int k y) he rfl),Qae (Qdl (v:=.int k b) he rfl),Qae (run_equalIn_int w d e' k k y b he)]
  cases h2:(y==b)<;>simp [go_sem,h2]
theorem Q7k {A B:Operand} {x0 x1 x2 x3 x4 y0 y1 y2 y3 y4:Int} (ht:P.underlying t=some (.struct (P.fieldsOf t))) (hp:P.stoodInHeld t=false) (hg:P.eqGuardType P.depth t=false) (ha:edgeT P k k2 (P.fieldsOf t).toList=true) :
  (do eqGuard .neq t A B (.agg #[.int k x0,.int k x1,.int k x2,.int k x3,.int k2 x4]) (.agg #[.int k y0,.int k y1,.int k y2,.int k y3,.int k2 y4]);binOp .neq t (.agg #[.int k x0,.int k x1,.int k x2,.int k x3,.int k2 x4]) (.agg #[.int k y0,.int k y1,.int k y2,.int k y3,.int k2 y4]):Sem Value).run P w =
   .ok (.bool (!((x0==y0&&x1==y1)&&((x2==y2&&x3==y3)&&x4==y4)))) w:=by
 rw [Qae (run_eqGuard_agg w .neq t A B _ _ hg),run_neq_struct,show 10000=9999+1 from rfl,run_equalIn_struct w _ t _ _ ht hp]
 unfold edgeT at ha
 split at ha
 case h_2=>cases ha
 rename_i f g h hfs
 simp only [Bool.and_eq_true,decide_eq_true_iff] at ha
 obtain ⟨⟨⟨⟨f1,f2⟩,f3⟩,⟨g1,g2⟩,g3⟩,⟨h1,h2⟩,h3⟩:=ha
 have f2':f.offset=0:=Nat.eq_of_beq_eq_true f2
 have g2':g.offset=2:=Nat.eq_of_beq_eq_true g2
 have h2':h.offset=4:=Nat.eq_of_beq_eq_true h2
 have h3':P.underlying h.type=some (.int k2):=by
  split at h3
  ·rename_i k' hk;rw [decide_eq_true_iff] at h3;rw [hk,h3]
  ·cases h3
 rw [hfs]
 simp only [Op.eqFields]
 rw [if_pos f1,f2',Qae (Qux (x:=x0) (y:=x1) f3 rfl),Qae (Qux (x:=y0) (y:=y1) f3 rfl),Qae (Q7z f3 9997)]
 cases hA:(x0==y0&&x1==y1)
 ·simp [go_sem]
 rw [if_neg (by simp),if_pos g1,g2',Qae (Qux (x:=x2) (y:=x3) g3 rfl),Qae (Qux (x:=y2) (y:=y3) g3 rfl),Qae (Q7z g3 9997)]
 cases hB:(x2==y2&&x3==y3)
 ·simp [go_sem]
 rw [if_neg (by simp),if_pos h1,h2',Qae (Qdl (v:=.int k2 x4) h3' rfl),Qae (Qdl (v:=.int k2 y4) h3' rfl),Qae (run_equalIn_int w 9998 h.type k2 k2 x4 y4 h3')]
 cases hC:(x4==y4)<;>simp [go_sem]
theorem Zl8:edgeT Pg .u32 .i32 (Pg.fieldsOf 107).toList=true:=by kernel_rfl
theorem Qvq {A B:Operand} {x0 x1 x2 x3 x4 y0 y1 y2 y3 y4:Int} :
  (do eqGuard .neq 107 A B (.agg #[.int .u32 x0,.int .u32 x1,.int .u32 x2,.int .u32 x3,.int .i32 x4]) (.agg #[.int .u32 y0,.int .u32 y1,.int .u32 y2,.int .u32 y3,.int .i32 y4]);binOp .neq 107 (.agg #[.int .u32 x0,.int .u32 x1,.int .u32 x2,.int .u32 x3,.int .i32 x4]) (.agg #[.int .u32 y0,.int .u32 y1,.int .u32 y2,.int .u32 y3,.int .i32 y4]):Sem Value).run Pg w =
   .ok (.bool (!((x0==y0&&x1==y1)&&((x2==y2&&x3==y3)&&x4==y4)))) w:=Q7k (by kernel_rfl) (by kernel_rfl) (by kernel_rfl) Zl8
end
structure Mdl where
 N:Int
 X:List (Int × Int)
 Y:List (Int × Int)
 m:Nat
 fr:Nat→Nat
 nx:Nat→Nat
 W:Nat→Int
 vb:Option Addr
 vc:Nat
 eb:Option Addr
 ec:Nat
 lb:Option Addr
 lc:Nat
def mcl (fr nx:Nat→Nat) (W:Nat→Int) (e:Nat):List Value:=[.int .u32 (fr (2*e):Nat),.int .u32 (fr (2*e+1):Nat),.int .u32 (nx (2*e):Nat),.int .u32 (nx (2*e+1):Nat),.int .i32 (W e)]
@[reducible] def Mdl.cl (M:Mdl):Array Value:=#[.int .i64 M.N,.slice M.vb M.X.length M.vc,.slice M.eb M.Y.length M.ec,.slice M.lb M.m M.lc]
@[reducible] def Mdl.val (M:Mdl):Value:=.agg #[.int .i64 M.N,.slice M.vb M.X.length M.vc,.slice M.eb M.Y.length M.ec,.slice M.lb M.m M.lc]
structure MV (w:World) (M:Mdl):Prop where
 v:VA w M.vb M.X.length 2 (M.X.flatMap pz)
 e:VA w M.eb M.Y.length 2 (M.Y.flatMap pz)
 l:VA w M.lb M.m 5 (recs (mcl M.fr M.nx M.W) M.m)
 x:∀p∈M.X,0≤p.1∧p.1<4294967296
 y:∀p∈M.Y,0≤p.1∧p.1<4294967296
 d:∀d,d<2*M.m→M.fr d<4294967296∧M.nx d<4294967296
 lx:M.X.length≤1000000000
 ly:M.Y.length≤1000000000
 lm:M.m≤1000000000
def lv (X:List (Int × Int)) (i:Nat):Bool:=match X[i]? with | some p=>p.2==1 | none=>false
def Mdl.LD (M:Mdl) (d:Nat):Prop:=lv M.Y (d/2)=true
def Mdl.ok (M:Mdl):Prop:=okA M.N M.X∧okA M.N M.Y∧M.m=M.Y.length∧
 (∀e,e<M.m→lv M.Y e=false→M.fr (2*e)=0∧M.fr (2*e+1)=0∧M.nx (2*e)=0∧M.nx (2*e+1)=0∧M.W e=0)∧
 ∀d,M.LD d→lv M.X (M.fr d)=true∧M.LD (M.nx d)∧M.fr (M.nx d)=M.fr d
theorem Qit {X:List (Int × Int)} {i:Nat} (h:lv X i=true):i<X.length:=by
 unfold lv at h
 split at h
 ·rename_i p hp;exact (List.getElem?_eq_some_iff.1 hp).1
 ·cases h
section
variable {w w':World} {M:Mdl} {X:List (Int × Int)} {b:Option Addr} {c m d e:Nat} {fr nx:Nat→Nat} {W:Nat→Int}
theorem MV.nob (h:MV w M) (k:Chg Qaa w w'):MV w' M:=⟨h.v.nob k,h.e.nob k,h.l.nob k,h.x,h.y,h.d,h.lx,h.ly,h.lm⟩
theorem Ziq (x:Nat):(mcl fr nx W x).length=5:=rfl
theorem Qlw (he:e<m) {j:Nat} (hj:j<5):(recs (mcl fr nx W) m)[e*5+j]?=(mcl fr nx W e)[j]?:=Qdb (enc:=mcl fr nx W) Ziq he hj
theorem ldM {A:Nat} {t:TypeId} (r:Row w.heap A t M.cl.toList) {K:Int→Option Addr→Nat→Nat→Option Addr→Nat→Nat→Option Addr→Nat→Nat→Prop} (k:K M.N M.vb M.X.length M.vc M.eb M.Y.length M.ec M.lb M.m M.lc):Qcy ⟨A,0,none⟩ w K:=by
 unfold Qcy
 rw [Qad,Qad,Qad]
 exact Qaf (n:=M.N) r rfl (Qai r rfl (Qai r rfl (Qai r rfl k)))
theorem ldE (h:VA w b m 5 (recs (mcl fr nx W) m)) (he:e<m) {K:Int→Int→Int→Int→Int→Prop} (k:K (fr (2*e):Nat) (fr (2*e+1):Nat) (nx (2*e):Nat) (nx (2*e+1):Nat) (W e)):ixS b m (e:Int) 5 fun a=>Qef a w K:=by
 refine h.ix he fun g o ty cs rg _ hc=>?_
 unfold Qef
 rw [Qad,Qad,Qad,Qad]
 have h0:=hc 0 (by omega)
 rw [Nat.add_zero] at h0
 refine Qaf (n:=(fr (2*e):Nat)) rg (h0.trans (Qlw (j:=0) he (by omega))) (Qaf (n:=(fr (2*e+1):Nat)) rg ((hc 1 (by omega)).trans (Qlw he (by omega))) (Qaf (n:=(nx (2*e):Nat)) rg ((hc 2 (by omega)).trans (Qlw he (by omega))) (Qaf (n:=(nx (2*e+1):Nat)) rg ((hc 3 (by omega)).trans (Qlw he (by omega))) (Qaf (n:=W e) rg ((hc 4 (by omega)).trans (Qlw he (by omega))) k))))
theorem ldFr (h:VA w b m 5 (recs (mcl fr nx W) m)) (hd:d/2<m) {K:Int→Prop} (k:K (fr d:Nat)):ixS b m ((d/2:Nat):Int) 5 fun a=>ixA a 2 ((d % 2:Nat):Int) 1 fun a'=>ldI .u32 a' w K:=by
 refine h.ix hd fun g o ty cs rg _ hc=>Qcb (by omega) (Qaf (n:=(fr d:Nat)) rg ?_ k)
 rw [Int.toNat_natCast,Nat.mul_one,hc _ (by omega),Qlw hd (by omega)]
 rcases Nat.mod_two_eq_zero_or_one d with z | z
 ·rw [z]
  show some (Value.int .u32 (fr (2*(d/2)):Nat))=_
  rw [show 2*(d/2)=d by omega]
 ·rw [z]
  show some (Value.int .u32 (fr (2*(d/2)+1):Nat))=_
  rw [show 2*(d/2)+1=d by omega]
theorem ldNx (h:VA w b m 5 (recs (mcl fr nx W) m)) (hd:d/2<m) {K:Int→Prop} (k:K (nx d:Nat)):ixS b m ((d/2:Nat):Int) 5 fun a=>ixA (a.add 2) 2 ((d % 2:Nat):Int) 1 fun a'=>ldI .u32 a' w K:=by
 refine h.ix hd fun g o ty cs rg _ hc=>?_
 rw [Qad]
 refine Qcb (by omega) (Qaf (n:=(nx d:Nat)) rg ?_ k)
 rw [Int.toNat_natCast,Nat.mul_one,Nat.add_assoc,hc _ (by omega),Qlw hd (by omega)]
 rcases Nat.mod_two_eq_zero_or_one d with z | z
 ·rw [z]
  show some (Value.int .u32 (nx (2*(d/2)):Nat))=_
  rw [show 2*(d/2)=d by omega]
 ·rw [z]
  show some (Value.int .u32 (nx (2*(d/2)+1):Nat))=_
  rw [show 2*(d/2)+1=d by omega]
theorem Qgx {x:Int} (h0:0≤x) (h1:x<4294967296):IntKind.wrap .u32 x=x:=by
 simp [IntKind.wrap,IntKind.bits,IntKind.signed];omega
theorem Q9x {x:Int} (h0:0≤x) (h1:x<18446744073709551616):IntKind.wrap .u64 x=x:=by
 simp [IntKind.wrap,IntKind.bits,IntKind.signed];omega
theorem td2:Int.tdiv (d:Int) 2=((d/2:Nat):Int):=by rw [Int.tdiv_eq_ediv_of_nonneg (by omega)];omega
theorem tm2:Int.tmod (d:Int) 2=((d % 2:Nat):Int):=by rw [Int.tmod_eq_emod_of_nonneg (by omega)];omega
theorem Q78 (va:VA w b X.length 2 (X.flatMap pz)) (hl:X.length≤1000000000) {i:Nat} (hi:i<4294967296):Calls Pg 183 #[.slice b X.length c,.int .u32 (i:Nat)] w fun r w'=>r=.returned (.bool (lv X i))∧w'=w:=by
 refine (Q0f _ _ _ _).go ?_
 unfold Qxd nr
 rw [Q9x (by omega) (by omega),Q9x (by omega) (by omega)]
 refine Qac (fun k=>?_) (fun k=>?_)<;>simp only [b1s] at k
 ·obtain ⟨p,hp⟩:∃p,X[i]?=some p:=⟨_,List.getElem?_eq_getElem (by omega)⟩
  refine ldz1 va hp ⟨?_,rfl⟩
  unfold lv
  rw [hp]
 ·refine ⟨?_,rfl⟩
  unfold lv
  rw [List.getElem?_eq_none (by omega)]
theorem Za3 (h:MV w M) (hm:M.Y.length≤M.m) (hd:d<4294967296):Calls Pg 184 #[M.val,.int .u32 (d:Nat)] w fun r w'=>r=.returned (.tuple #[.int .u32 (if lv M.Y (d/2) then M.fr d else 0:Nat),.bool (lv M.Y (d/2))])∧Chg Qaa w w':=by
 refine (Qr5 _ _ _ _ _ _ _ _ _ _ _).go ?_
 unfold Qlq nr
 refine Qak fun A w6 hA c6 r6=>?_
 rw [Qad,Qad,td2,tm2]
 have ly:=h.ly
 refine Qai r6 rfl ⟨by decide,?_⟩
 rw [Qgx (by omega) (by omega)]
 refine (Q78 (h.nob c6).e h.ly (by omega)).mono ?_
 rintro r w9 ⟨rfl,rfl⟩
 refine ⟨_,rfl,Qac (fun k=>?_) (fun k=>?_)⟩
 ·have k':lv M.Y (d/2)=false:=by simpa using k
  rw [k'];exact ⟨rfl,c6⟩
 ·have k':lv M.Y (d/2)=true:=by simpa using k
  have:=Qit k'
  rw [k']
  exact Qai r6 rfl ⟨by decide,by decide,ldFr (h.nob c6).l (by omega) ⟨rfl,c6⟩⟩
theorem Zgf (h:MV w M) (hd:d/2<M.m) (hx:M.nx d<4294967296):Calls Pg 185 #[M.val,.int .i64 (d:Nat)] w fun r w'=>r=.returned (.int .i64 (M.nx d:Nat))∧Chg Qaa w w':=by
 refine (Qr4 _ _ _ _ _ _ _ _ _ _ _).go ?_
 unfold Qlp nr
 refine Qak fun A w6 hA c6 r6=>?_
 have lm:=h.lm
 rw [Qad,td2,tm2,wrap64_in (by omega) (by omega)]
 refine Qai r6 rfl ⟨by decide,by decide,ldNx (h.nob c6).l hd ⟨?_,c6⟩⟩
 rw [wrap64_in (by omega) (by omega)]
end
section
variable {w w':World} {M:Mdl}
theorem ldEr {B:Nat} {t:TypeId} {x0 x1 x2 x3 x4:Int} (r:Row w.heap B t [.int .u32 x0,.int .u32 x1,.int .u32 x2,.int .u32 x3,.int .i32 x4]) {K:Int→Int→Int→Int→Int→Prop} (k:K x0 x1 x2 x3 x4):Qef ⟨B,0,none⟩ w K:=by
 unfold Qef
 rw [Qad,Qad,Qad,Qad]
 exact Qaf (n:=x0) r rfl (Qaf (n:=x1) r rfl (Qaf (n:=x2) r rfl (Qaf (n:=x3) r rfl (Qaf (n:=x4) r rfl k))))
def Mdl.dok (M:Mdl) (d:Nat):Prop:=lv M.X (M.fr d)=true∧M.LD (M.nx d)∧M.fr (M.nx d)=M.fr d
def Mdl.eok (M:Mdl) (e:Nat):Prop:=(lv M.Y e=false→M.fr (2*e)=0∧M.fr (2*e+1)=0∧M.nx (2*e)=0∧M.nx (2*e+1)=0∧M.W e=0)∧(lv M.Y e=true→M.dok (2*e)∧M.dok (2*e+1))
theorem Mdl.Zk8:M.ok↔okA M.N M.X∧okA M.N M.Y∧M.m=M.Y.length∧∀e,e<M.m→M.eok e:=by
 unfold Mdl.ok
 constructor
 ·rintro ⟨h1,h2,h3,h4,h5⟩
  refine ⟨h1,h2,h3,fun e he=>⟨h4 e he,fun hl=>⟨h5 _ ?_,h5 _ ?_⟩⟩⟩
  ·unfold Mdl.LD;rw [show 2*e/2=e by omega];exact hl
  ·unfold Mdl.LD;rw [show (2*e+1)/2=e by omega];exact hl
 ·rintro ⟨h1,h2,h3,h4⟩
  refine ⟨h1,h2,h3,fun e he=>(h4 e he).1,fun d hd=>?_⟩
  have hl:=Qit hd
  have:=(h4 (d/2) (by omega)).2 hd
  rcases Nat.mod_two_eq_zero_or_one d with z | z
  ·rw [show 2*(d/2)=d by omega] at this;exact this.1
  ·rw [show 2*(d/2)+1=d by omega] at this;exact this.2
theorem Zis (h:MV w M):Calls Pg 107 #[M.val] w fun r w'=>∃z,r=.returned (.bool z)∧Chg Qaa w w'∧(z=true↔M.ok):=by
 refine (Qq7 _ _ _ _ _ _ _ _ _ _).go ?_
 unfold Qkg nr
 have lm:=h.lm
 rw [Mdl.Zk8]
 refine Qak fun A w5 hA c5 r5=>?_
 rw [Qad,Qad,Qad]
 refine Qaf (n:=M.N) r5 rfl (Qai r5 rfl ((Q0v (h.nob c5).v h.x h.lx).mono ?_))
 rintro r w10 ⟨c10,k1,k2⟩
 by_cases o1:okA M.N M.X
 case neg=>
  rw [k1 o1]
  exact ⟨_,_,rfl,Qaj (fun _=>⟨false,rfl,c5.trans c10,by simp [o1]⟩) (fun e=>absurd e (by decide))⟩
 obtain ⟨A1,_,_,_,_,_,rfl,_⟩:=k2 o1
 have r10:=c10.row (fun h=>h) r5
 have c010:=c5.trans c10
 refine ⟨_,_,rfl,Qaj (fun e=>absurd rfl e) (fun _=>⟨fun us w'=>us=[]∧Chg Qaa w w'∧Row w'.heap A 36 M.cl.toList∧okA M.N M.Y∧M.m=M.Y.length,?_,?_⟩)⟩
 ·refine Qaf (n:=M.N) r10 rfl (Qai r10 rfl ((Q0v (h.nob c010).e h.y h.ly).mono ?_))
  rintro r w17 ⟨c17,k3,k4⟩
  by_cases o2:okA M.N M.Y
  case neg=>
   rw [k3 o2]
   exact ⟨_,_,rfl,Qaj (fun _=>⟨false,rfl,c010.trans c17,by simp [o2]⟩) (fun e=>absurd e (by decide))⟩
  obtain ⟨A2,_,_,_,_,_,rfl,_⟩:=k4 o2
  have r17:=c17.row (fun h=>h) r10
  refine ⟨_,_,rfl,Qaj (fun e=>absurd rfl e) (fun _=>Qai r17 rfl (Qai r17 rfl (Qac (fun k=>?_) (fun k=>?_))))⟩<;>simp only [b1s] at k
  ·refine ⟨false,rfl,c010.trans c17,by simp;intro _ _ e;omega⟩
  ·exact ⟨rfl,c010.trans c17,r17,o2,by omega⟩
 rintro _ w21 ⟨_,c21,r21,o2,o3⟩
 refine Qai r21 rfl ?_
 let J:Nat→List Value→World→Prop:=fun j us w'=>∃e:Nat,us=[.int .i64 e]∧e≤M.m∧Chg Qaa w21 w'∧(∀x,x<e→M.eok x)∧j=M.m-e
 refine ⟨LI J,LM J,⟨_,0,rfl,by omega,Chg.refl _ _,fun x h=>absurd h (Nat.not_lt_zero _),rfl⟩,?_⟩
 intro _ e w26 hJ
 obtain ⟨e,hvs,he,ck,hg,hj⟩:=hJ.at
 simp only [vj] at hvs
 subst hvs
 refine Qac (fun hlt=>?_) (fun hlt=>?_)<;>simp only [b1s] at hlt
 rotate_left
 ·exact ⟨true,rfl,c21.trans ck,by simp only [true_iff];exact ⟨o1,o2,o3,fun x hx=>hg x (by omega)⟩⟩
 have hem:e<M.m:=by omega
 have c26:=c21.trans ck
 have r26:=ck.row (fun h=>h) r21
 rw [Qgx (by omega) (by omega),wrap64_in (x:=(e:Int)+1) (by omega) (by omega),show ((e:Int)+1)=((e+1:Nat):Int) by omega]
 have d0:=h.d (2*e) (by omega)
 have d1:=h.d (2*e+1) (by omega)
 refine ldE (h.nob c26).l hem (Qak fun B w34 hB c34 r34=>Qd3 r34 rfl (by intro v hv;simp at hv;rcases hv with rfl | rfl | rfl | rfl | rfl<;>rfl) fun w35 c35 r35=>?_)
 have c2635:Chg Qaa w26 w35:=c34.trans' c35 fun k e=>.inr (by omega)
 have r35m:=c2635.row (fun h=>h) r26
 have ck35:=ck.trans c2635
 have c035:=c26.trans c2635
 rw [Qad,Qad]
 refine Qai r35m rfl ((Q78 (h.nob c035).e h.ly (by omega)).mono ?_)
 rintro r w38 ⟨rfl,rfl⟩
 refine ⟨_,rfl,Qac (fun k=>?_) (fun k=>?_)⟩
 ·have k':lv M.Y e=false:=by simpa using k
  refine ldEr r35 ⟨_,_,Qvq,Qac (fun k2=>⟨false,rfl,c035,?_⟩) (fun k2=>?_)⟩
  ·refine ⟨fun h=>(by cases h),fun ⟨_,_,_,h4⟩=>?_⟩
   obtain ⟨z0,z1,z2,z3,z4⟩:=(h4 e hem).1 k'
   rw [z0,z1,z2,z3,z4] at k2
   simp at k2
  ·refine LI.again (k:=M.m-(e+1)) ⟨e+1,rfl,by omega,ck35,fun x hx=>?_,rfl⟩ (by rw [hj];omega)
   rcases Nat.lt_succ_iff_lt_or_eq.1 hx with hx | rfl
   ·exact hg x hx
   ·refine ⟨fun _=>?_,fun hl=>by rw [k'] at hl;cases hl⟩
    simp at k2
    omega
 ·have k':lv M.Y e=true:=by simpa using k
  have bad0:¬M.dok (2*e)→(false=true↔okA M.N M.X∧okA M.N M.Y∧M.m=M.Y.length∧∀e,e<M.m→M.eok e):=fun hb=>⟨fun h=>(by cases h),fun ⟨_,_,_,h4⟩=>absurd ((h4 e hem).2 k').1 hb⟩
  have bad1:¬M.dok (2*e+1)→(false=true↔okA M.N M.X∧okA M.N M.Y∧M.m=M.Y.length∧∀e,e<M.m→M.eok e):=fun hb=>⟨fun h=>(by cases h),fun ⟨_,_,_,h4⟩=>absurd ((h4 e hem).2 k').2 hb⟩
  refine Qaf (n:=(M.fr (2*e):Nat)) r35 rfl ?_
  refine Qaf (n:=(M.fr (2*e+1):Nat)) r35 rfl ⟨(M.fr (2*e):Nat),by decide,by decide,rfl,ldM (w:=w38.drew) r35m ?_⟩
  refine Qcb (by decide) (Qaf (w:=w38.drew) (n:=(M.nx (2*e):Nat)) r35 rfl ((Za3 (h.nob c035.drew) (by omega) d0.2).mono ?_))
  rintro r w58 ⟨rfl,c58⟩
  have c3558:Chg Qaa w38 w58:=(Chg.refl Qaa w38).drew.trans c58
  have r58m:=c3558.row (fun h=>h) r35m
  have r58:=c3558.row (fun h=>h) r35
  have c058:=c035.trans c3558
  refine ⟨_,_,rfl,Qai r58m rfl ((Q78 (h.nob c058).v h.lx d0.1).mono ?_)⟩
  rintro r w62 ⟨rfl,rfl⟩
  refine ⟨_,rfl,Qac (fun k1=>⟨false,rfl,c058,bad0 fun hd=>by rw [hd.1] at k1;cases k1⟩) (fun k1=>Qac (fun k2=>⟨false,rfl,c058,bad0 fun hd=>?_⟩) (fun k2=>Qac (fun k3=>⟨false,rfl,c058,bad0 fun hd=>?_⟩) (fun k3=>?_)))⟩
  ·have:=hd.2.1;unfold Mdl.LD at this;rw [this] at k2;cases k2
  ·have h1:=hd.2.1;unfold Mdl.LD at h1
   rw [h1,if_pos rfl,hd.2.2] at k3;simp at k3
  have ok0:M.dok (2*e):=by
   have k2':lv M.Y (M.nx (2*e)/2)=true:=by simpa using k2
   rw [k2',if_pos rfl] at k3
   refine ⟨by simpa using k1,k2',?_⟩
   simp at k3;omega
  refine ⟨(M.fr (2*e+1):Nat),by decide,by decide,rfl,ldM (w:=w62.drew) r58m ?_⟩
  refine Qcb (by decide) (Qaf (w:=w62.drew) (n:=(M.nx (2*e+1):Nat)) r58 rfl ((Za3 (h.nob c058.drew) (by omega) d1.2).mono ?_))
  rintro r w73 ⟨rfl,c73⟩
  have c5873:Chg Qaa w62 w73:=(Chg.refl Qaa w62).drew.trans c73
  have r73m:=c5873.row (fun h=>h) r58m
  have c073:=c058.trans c5873
  refine ⟨_,_,rfl,Qai r73m rfl ((Q78 (h.nob c073).v h.lx d1.1).mono ?_)⟩
  rintro r w77 ⟨rfl,rfl⟩
  refine ⟨_,rfl,Qac (fun k4=>⟨false,rfl,c073,bad1 fun hd=>by rw [hd.1] at k4;cases k4⟩) (fun k4=>Qac (fun k5=>⟨false,rfl,c073,bad1 fun hd=>?_⟩) (fun k5=>Qac (fun k6=>⟨false,rfl,c073,bad1 fun hd=>?_⟩) (fun k6=>?_)))⟩
  ·have:=hd.2.1;unfold Mdl.LD at this;rw [this] at k5;cases k5
  ·have h1:=hd.2.1;unfold Mdl.LD at h1
   rw [h1,if_pos rfl,hd.2.2] at k6;simp at k6
  have ok1:M.dok (2*e+1):=by
   have k5':lv M.Y (M.nx (2*e+1)/2)=true:=by simpa using k5
   rw [k5',if_pos rfl] at k6
   refine ⟨by simpa using k4,k5',?_⟩
   simp at k6;omega
  refine LI.again (k:=M.m-(e+1)) ⟨e+1,rfl,by omega,(ck35.trans c3558).trans c5873,fun x hx=>?_,rfl⟩ (by rw [hj];omega)
  rcases Nat.lt_succ_iff_lt_or_eq.1 hx with hx | rfl
  ·exact hg x hx
  ·exact ⟨fun hl=>(by rw [k'] at hl;cases hl),fun _=>⟨ok0,ok1⟩⟩
end
structure OL (w:World) (base A n:Nat) (out:Nat→List Nat):Prop where
 ex:∃(B:Nat→Option Addr) (C:Nat→Nat),Row w.heap A 58 (recs (fun i=>[.slice (B i) (out i).length (C i)]) n)∧(∀i,i<n→Own w base 3 1 (B i) (out i).length (C i) (ivs (out i)))∧∀i j g,i<n→j<n→bk (B i)=some g→bk (B j)=some g→i=j
 lt:A<base
 sz:base≤w.heap.size
section
variable {w w':World} {base A n v:Nat} {out:Nat→List Nat} {x:Nat} {S:Nat→Prop}
theorem OL.keep (h:OL w base A n out) (k:Chg S w w') (hA:¬S A) (hS:∀i,S i→i<base):OL w' base A n out:=by
 obtain ⟨B,C,r,o,d⟩:=h.ex
 have:=k.size
 have:=h.sz
 exact ⟨⟨B,C,k.row hA r,fun i hi=>(o i hi).keep k fun g hg hs=>by have:=((o i hi).Qar hg).1;have:=hS g hs;omega,d⟩,h.lt,by omega⟩
theorem OL.nob (h:OL w base A n out) (k:Chg Qaa w w'):OL w' base A n out:=h.keep k (fun h=>h) fun _ h=>h.elim
theorem Qvf {B:Nat→Option Addr} {L C:Nat→Nat} (i:Nat):((fun i=>[Value.slice (B i) (L i) (C i)]) i).length=1:=rfl
theorem OL.rd (h:OL w base A n out) (hv:v<n):∃b c,VA w b (out v).length 1 (ivs (out v))∧∀{K:Option Addr→Nat→Nat→Prop},K b (out v).length c→ixS (some ⟨A,0,none⟩) n (v:Int) 1 fun a=>ldS a w K:=by
 obtain ⟨B,C,r,o,d⟩:=h.ex
 refine ⟨B v,C v,VA.Qa6 (o v hv),fun {K} k=>Qat hv (Qai r ?_ k)⟩
 rw [show 0+v*1=v*1+0 by omega,Qdb (sz:=1) (fun i=>[Value.slice (B i) (out i).length (C i)]) Qvf hv (by omega)]
 rfl
theorem OL.push (h:OL w base A n out) (hv:v<n) (hl:(out v).length≤1000000000) {K:World→Prop} (k:∀w',OL w' base A n (upd out v (out v++[x]))→Chg (fun k=>k=A∨base≤k) w w'→K w') :
  ixS (some ⟨A,0,none⟩) n (v:Int) 1 fun a38=>ldS a38 w fun b l c=>alo #[.int .i64 (x:Nat)] 3 w fun a40 w41=>∃s42b s42l s42c w43,(Builtin.append_ #[58,58] 58 #[.slice b l c,.slice (some a40) 1 1]).run Pg w41=.ok (.slice s42b s42l s42c) w43∧ixS (some ⟨A,0,none⟩) n (v:Int) 1 fun a44=>sto a44 (.slice s42b s42l s42c) w43 K:=by
 obtain ⟨B,C,r,o,d⟩:=h.ex
 have hlt:=h.lt
 have hsz:=h.sz
 refine Qat hv (Qai (x:=B v) (l:=(out v).length) (c:=C v) r ?_ (Qak fun a w41 ha c41 r41=>?_))
 ·rw [show 0+v*1=v*1+0 by omega,Qdb (sz:=1) (fun i=>[Value.slice (B i) (out i).length (C i)]) Qvf hv (by omega)]
  rfl
 have s41:=c41.size
 obtain ⟨b',c',w43,hrun,o43,c43,hb⟩:=Qaw (ty:=58) Qdv ((o v hv).keep c41 fun _ _ h=>h) r41 rfl (by intro u hu;simp at hu;subst hu;rfl) (by omega) (by omega) (by omega)
 refine ⟨b',_,c',w43,hrun,Qat hv ?_⟩
 have r43:=c43.row (fun e=>by have:=((o v hv).Qar e).1;omega) (c41.row (fun h=>h) r)
 refine Qao r43 ?_ rfl fun w45 c45 r45=>k w45 ⟨⟨upd B v b',upd C v c',?_,?_,?_⟩,hlt,?_⟩ ?_
 ·rw [Qah (sz:=1) (fun i=>[Value.slice (B i) (out i).length (C i)]) Qvf];omega
 ·rw [show 0+v*1=v*1+0 by omega,Qca (sz:=1) (fun i=>[Value.slice (B i) (out i).length (C i)]) Qvf (g:=fun i=>[Value.slice (upd B v b' i) (upd out v (out v++[x]) i).length (upd C v c' i)]) hv (by omega) (fun j hj=>by simp only [Qag _ _ hj]) (by simp only [Qab];simp)] at r45
  exact r45
 ·intro i hi
  by_cases e:i=v
  ·subst e
   rw [Qab,Qab,Qab,List.length_append]
   have:=o43.keep c45 fun g hg e=>by have:=(o43.Qar hg).1;omega
   simpa [ivs] using this
  ·rw [Qag _ _ e,Qag _ _ e,Qag _ _ e]
   refine (((o i hi).keep c41 fun _ _ h=>h).keep c43 fun g hg h2=>e (d i v g hi hv hg h2)).keep c45 fun g hg e=>by have:=((o i hi).Qar hg).1;omega
 ·have key:∀j g,j<n→j≠v→bk (B j)=some g→bk b'=some g→False:=by
   intro j g hj hne h1 h2
   rcases hb with h3 | h3
   ·exact hne (d j v g hj hv h1 (h3 ▸ h2))
   ·rw [h3] at h2;cases h2
    have:=((o j hj).Qar h1).2;omega
  intro i j g hi hj h1 h2
  by_cases e1:i=v<;>by_cases e2:j=v
  ·omega
  ·subst e1;rw [Qab] at h1;rw [Qag _ _ e2] at h2;exact (key j g hj e2 h2 h1).elim
  ·subst e2;rw [Qab] at h2;rw [Qag _ _ e1] at h1;exact (key i g hi e1 h1 h2).elim
  ·rw [Qag _ _ e1] at h1;rw [Qag _ _ e2] at h2;exact d i j g hi hj h1 h2
 ·have:=c43.size;have:=c45.size;omega
 ·exact ((c41.mono fun _ _ h=>h.elim).trans (c43.mono fun k _ e=>.inr ((o v hv).Qar e).1)).trans (c45.mono fun k _ e=>.inl e)
theorem OL.tf {s:Nat} (h:OL w base A n out) (hs:s≤A):TF w (fun k=>k<s) (some ⟨A,0,none⟩) n out:=by
 obtain ⟨B,C,r,o,d⟩:=h.ex
 have hlt:=h.lt
 refine ⟨fun i=>.slice (B i) (out i).length (C i),VA.Qgm r (Qah (sz:=1) (fun i=>[Value.slice (B i) (out i).length (C i)]) Qvf n),fun g _ hg=>?_,fun i hi=>⟨_,_,rfl,VA.Qa6 (o i hi),fun g _ hg=>?_,(o i hi).cap.1⟩⟩
 ·cases hg;show ¬A<s;omega
 ·have:=((o i hi).Qar hg).1
  show ¬g<s;omega
end
section
variable {w w':World} {M:Mdl}
theorem Mdl.Q9e (ok:M.ok):M.X.length≤1048576∧M.m≤1048576:=by
 have h1:=ok.1
 have h2:=ok.2.1
 have h3:=ok.2.2.1
 have:=h1.1;have:=h1.2.1;have:=h2.1;have:=h2.2.1
 omega
theorem Zek (h:MV w M) (ok:M.ok):Calls Pg 108 #[M.val] w fun r w'=>Chg Qaa w w'∧
  ((∃A tl,r=.returned (.tuple #[.slice (some ⟨A,0,none⟩) M.X.length M.X.length,.bool true])∧TF w' (fun k=>k<w.heap.size) (some ⟨A,0,none⟩) M.X.length tl∧Rot M.LD M.fr M.nx tl)∨
   (r=.returned (.tuple #[.slice none 0 0,.bool false])∧¬∃tl,Rot M.LD M.fr M.nx tl)):=by
 refine (Qqc _ _ _ _ _ _ _ _ _ _).go ?_
 unfold Qjf nr
 obtain ⟨lX,lm⟩:=Mdl.Q9e ok
 obtain ⟨_,_,eY,_,hdk⟩:=ok
 have hlt:∀{x},M.LD x→x<2*M.m:=fun {x} hx=>by have:=Qit hx;omega
 refine Qak fun A4 w5 hA4 c5 r5=>?_
 rw [Qad,Qad]
 refine Qai r5 rfl ⟨by omega,Int.le_refl _,by omega,Qak fun A w8 hA c8 r8=>Qai (c8.row (fun h=>h) r5) rfl ?_⟩
 rw [Int.toNat_natCast] at r8 ⊢
 rw [wrap64_in (x:=(2:Int)*(M.m:Nat)) (by omega) (by omega),show (2:Int)*(M.m:Nat)=((2*M.m:Nat):Int) by omega,show Int.toNat ((2*M.m:Nat):Int)=2*M.m from rfl]
 refine ⟨by omega,Int.le_refl _,by omega,Qak fun S w11 hS c11 r11=>?_⟩
 have r8':Row w8.heap A 58 (recs (fun _=>[.slice none 0 0]) M.X.length):=by rw [Qas] at r8;exact r8
 have r11':Row w11.heap S 4 (recs (bc fun _=>false) (2*M.m)):=by rw [Qas] at r11;exact r11
 have s5:=c5.size
 have s8:=c8.size
 have s11:=c11.size
 have lA4:=r5.lt
 have lA:=r8.lt
 have lS:=r11.lt
 have c0:Chg Qaa w w11:=(c5.trans c8).trans c11
 have m11:Row w11.heap A4 36 M.cl.toList:=c11.row (fun h=>h) (c8.row (fun h=>h) r5)
 have ol:OL w11 w11.heap.size A M.X.length fun _=>[]:=⟨⟨fun _=>none,fun _=>0,c11.row (fun h=>h) r8',fun i _=>Own.nil,fun i j g _ _ hg=>by cases hg⟩,by omega,Nat.le_refl _⟩
 let J:Nat→List Value→World→Prop:=fun j us w'=>∃(d:Nat) (out:Nat→List Nat) (sn:Nat→Bool),us=[.int .i64 d]∧d≤2*M.m∧OW M.LD M.fr M.nx d out∧OL w' w11.heap.size A M.X.length out∧Row w'.heap S 4 (recs (bc sn) (2*M.m))∧(∀y,sn y=true↔∃u,y∈out u)∧Chg (fun k=>k=A∨k=S∨w11.heap.size≤k) w11 w'∧j=2*M.m-d
 refine ⟨LI J,LM J,⟨_,0,fun _=>[],fun _=>false,rfl,by omega,OW.none,ol,r11',fun y=>⟨fun h=>(by cases h),fun ⟨_,h⟩=>by cases h⟩,Chg.refl _ _,rfl⟩,?_⟩
 intro _ d w15 hJ
 obtain ⟨d,out,sn,hvs,hd,ow,ol,rs,hsn,ck,hj⟩:=hJ.at
 simp only [vj] at hvs
 subst hvs
 have cw:∀{w'},Chg (fun k=>k=A∨k=S∨w11.heap.size≤k) w11 w'→Chg Qaa w w':=fun {w'} c=>c0.trans' c fun k e=>.inr (by omega)
 have km:∀{w'},Chg (fun k=>k=A∨k=S∨w11.heap.size≤k) w11 w'→Row w'.heap A4 36 M.cl.toList:=fun {w'} c=>c.row (fun e=>by omega) m11
 refine Qac (fun hlt1=>?_) (fun hlt1=>?_)<;>simp only [b1s] at hlt1
 rotate_left
 ·refine ⟨cw ck,.inl ⟨A,out,rfl,ol.tf (by omega),ow.rot fun x hx=>by have:=hlt hx;omega⟩⟩
 have hdm:d<2*M.m:=by omega
 rw [Qgx (by omega) (by omega)]
 refine ldM (km ck) ((Za3 (h.nob (cw ck)) (by omega) (by omega)).mono ?_)
 rintro r w22 ⟨rfl,c22⟩
 have ol22:=ol.nob c22
 have rs22:=c22.row (fun h=>h) rs
 have ck22:=ck.trans (c22.mono fun _ _ h=>h.elim)
 rw [wrap64_in (x:=(d:Int)+1) (by omega) (by omega),show ((d:Int)+1)=((d+1:Nat):Int) by omega]
 refine ⟨_,_,rfl,?_⟩
 cases hl:lv M.Y (d/2)
 ·refine ⟨fun _ _=>False,Qac (fun _=>LI.again (k:=2*M.m-(d+1)) ⟨d+1,out,sn,rfl,by omega,ow.skip fun hx=>(by unfold Mdl.LD at hx;rw [hl] at hx;cases hx),ol22,rs22,hsn,ck22,rfl⟩ (by rw [hj];omega)) (fun k=>by cases k),fun _ _ h=>h.elim⟩
 rw [if_pos rfl]
 have hL:M.LD d:=hl
 have hv:=(hdk d hL).1
 have hvX:M.fr d<M.X.length:=Qit hv
 refine ⟨fun us w'=>us=[]∧w'=w22∧sn d=false,Qac (fun k=>by cases k) (fun _=>Qat hdm (Qqt (n:=sn d) rs22 (by rw [Nat.zero_add,Nat.mul_one];exact Qj0 hdm) (Qac (fun hs=>?_) (fun hs=>⟨rfl,rfl,hs⟩)))),?_⟩
 ·refine LI.again (k:=2*M.m-(d+1)) ⟨d+1,out,sn,rfl,by omega,ow.skip fun _=>?_,ol22,rs22,hsn,ck22,rfl⟩ (by rw [hj];omega)
  obtain ⟨u,hu⟩:=(hsn d).1 hs
  rw [(ow.m hu).2];exact hu
 rintro _ w27 ⟨_,rfl,hs⟩
 have hd0:∀u,d∉out u:=fun u hu=>by rw [(hsn d).2 ⟨u,hu⟩] at hs;cases hs
 obtain ⟨b,c,va,rd⟩:=ol22.rd hvX
 refine rd (Qac (fun k=>?_) (fun k=>?_))<;>simp only [b1s] at k
 ·refine ⟨cw ck22,.inr ⟨rfl,ow.twice hL (fun e=>by rw [e] at k;simp at k) (hd0 _)⟩⟩
 have he:out (M.fr d)=[]:=List.length_eq_zero_iff.1 (by omega)
 have hup:upd out (M.fr d) []=out:=by
  funext u;unfold upd;split
  ·rename_i e;rw [e,he]
  ·rfl
 let J2:Nat→List Value→World→Prop:=fun j us w'=>∃(x:Nat) (c:List Nat) (sn:Nat→Bool),us=[.int .i64 x]∧((c=[]∧x=d)∨∃t,CW M.LD M.fr M.nx (M.fr d) d c∧c.getLast?=some t∧x=M.nx t)∧M.LD x∧M.fr x=M.fr d∧OL w' w11.heap.size A M.X.length (upd out (M.fr d) c)∧Row w'.heap S 4 (recs (bc sn) (2*M.m))∧(∀y,sn y=true↔∃u,y∈upd out (M.fr d) c u)∧Chg (fun k=>k=A∨k=S∨w11.heap.size≤k) w11 w'∧j=2*M.m-c.length
 refine ⟨LI J2,LM J2,⟨_,d,[],sn,rfl,.inl ⟨rfl,rfl⟩,hL,rfl,by rw [hup];exact ol22,rs22,by rw [hup];exact hsn,ck22,rfl⟩,?_⟩
 intro _ x w33 hJ2
 obtain ⟨x,c,sn2,hvs,hx,hLx,hfx,ol2,rs2,hsn2,ck2,hj2⟩:=hJ2.at
 simp only [vj] at hvs
 subst hvs
 have hx2:=hlt hLx
 have hdx:=hdk x hLx
 have hcl:c.length≤2*M.m:=by
  rcases hx with ⟨rfl,_⟩ | ⟨t,cw,_⟩
  ·exact Nat.zero_le _
  ·exact Qbh cw.n fun y hy=>hlt (cw.m y hy).1
 refine Qat hx2 (Qqt (n:=sn2 x) rs2 (by rw [Nat.zero_add,Nat.mul_one];exact Qj0 hx2) (Qac (fun hs2=>?_) (fun hs2=>?_)))
 ·have hs2':sn2 x=false:=by simpa using hs2
  have hxn:∀u,x∉upd out (M.fr d) c u:=fun u hu=>by rw [(hsn2 x).2 ⟨u,hu⟩] at hs2';cases hs2'
  have hxc:x∉c:=fun hu=>hxn (M.fr d) (by rw [Qab];exact hu)
  have hcw:CW M.LD M.fr M.nx (M.fr d) d (c++[x]):=by
   rcases hx with ⟨rfl,rfl⟩ | ⟨t,cw,ht,rfl⟩
   ·exact CW.one hLx hfx
   ·exact cw.more ht ⟨hLx,hfx⟩ hxc
  have hcl2:(c++[x]).length≤2*M.m:=Qbh hcw.n fun y hy=>hlt (hcw.m y hy).1
  rw [List.length_append] at hcl2
  simp only [List.length_cons,List.length_nil] at hcl2
  refine Qat hx2 (Qao rs2 (by rw [Qah (sz:=1) (bc sn2) Q5q];omega) rfl fun w37 c37 r37=>?_)
  rw [Nat.zero_add,Nat.mul_one,Qz5 hx2] at r37
  have hol:=ol2.sz
  have ol37:=ol2.keep c37 (fun e=>by omega) fun i e=>by omega
  have ck37:=ck2.trans (c37.mono fun k _ e=>.inr (.inl e))
  refine ol37.push (x:=x) hvX (by rw [Qab];omega) fun w45 ol45 c45=>?_
  have ck45:=ck37.trans (c45.mono fun k _ e=>by rcases e with e | e<;>simp [e])
  have r45:=c45.row (fun e=>by have:=ck37.size;omega) r37
  refine ldM (km ck45) ((Zgf (h.nob (cw ck45)) (by omega) (h.d x (by omega)).2).mono ?_)
  rintro r w51 ⟨rfl,c51⟩
  rw [Qab,Qhh] at ol45
  refine ⟨_,rfl,LI.again (k:=2*M.m-(c++[x]).length) ⟨M.nx x,c++[x],upd sn2 x true,rfl,.inr ⟨x,hcw,by simp,rfl⟩,hdx.2.1,by rw [hdx.2.2,hfx],ol45.nob c51,c51.row (fun h=>h) r45,fun y=>?_,ck45.trans (c51.mono fun _ _ h=>h.elim),rfl⟩ (by rw [hj2,List.length_append];simp only [List.length_cons,List.length_nil];omega)⟩
  constructor
  ·intro hy
   by_cases e:y=x
   ·subst e;exact ⟨M.fr d,by rw [Qab];simp⟩
   ·rw [Qag _ _ e] at hy
    obtain ⟨u,hu⟩:=(hsn2 y).1 hy
    refine ⟨u,?_⟩
    by_cases e2:u=M.fr d
    ·subst e2;rw [Qab] at hu ⊢;simp [hu]
    ·rw [Qag _ _ e2] at hu ⊢;exact hu
  ·rintro ⟨u,hu⟩
   by_cases e:y=x
   ·subst e;rw [Qab]
   ·rw [Qag _ _ e]
    refine (hsn2 y).2 ⟨u,?_⟩
    by_cases e2:u=M.fr d
    ·subst e2;rw [Qab] at hu ⊢;simpa [e] using hu
    ·rw [Qag _ _ e2] at hu ⊢;exact hu
 ·have hs2':sn2 x=true:=by simpa using hs2
  obtain ⟨u,hu⟩:=(hsn2 x).1 hs2'
  have hxc:x∈c:=by
   by_cases e2:u=M.fr d
   ·subst e2;rw [Qab] at hu;exact hu
   ·rw [Qag _ _ e2] at hu
    exact absurd ((ow.m hu).2.symm.trans hfx) e2
  rcases hx with ⟨rfl,_⟩ | ⟨t,cw2,ht,rfl⟩
  ·cases hxc
  have htc:=List.mem_of_getLast? ht
  have hLt:=(cw2.m t htc).1
  have ht2:=hlt hLt
  have hlc:0<c.length:=List.length_pos_of_mem htc
  obtain ⟨b,cc,va,rd⟩:=ol2.rd hvX
  refine rd (ldM (w:=w33.drew) (km ck2.drew) ?_)
  rw [Qab] at va ⊢
  rw [wrap64_in (by omega) (by omega),show ((c.length:Int)-1)=((c.length-1:Nat):Int) by omega]
  refine rdI (w:=w33.drew) va (by rw [←List.getLast?_eq_getElem?];exact ht) ((Zgf (h.nob (cw ck2).drew) (by omega) (h.d t (by omega)).2).mono ?_)
  rintro r w62 ⟨rfl,c62⟩
  have c3362:Chg Qaa w33 w62:=(Chg.refl Qaa w33).drew.trans c62
  have ck62:=ck2.trans (c3362.mono fun _ _ h=>h.elim)
  refine ⟨_,rfl,Qac (fun k=>?_) (fun k=>?_)⟩<;>simp only [b1s] at k
  ·exact ⟨cw ck62,.inr ⟨rfl,cw2.stuck ht hxc (by omega)⟩⟩
  ·exact LI.again (k:=2*M.m-(d+1)) ⟨d+1,upd out (M.fr d) c,sn2,rfl,by omega,ow.take hL he cw2 ht (by omega),ol2.nob c3362,c3362.row (fun h=>h) rs2,hsn2,ck62,rfl⟩ (by rw [hj];omega)
end
section
variable {w w':World} {M:Mdl} {tl:Nat→List Nat} {bad:Nat→Prop} {rb:Option Addr} {rc:Nat}
theorem Q1k {X:List (Int × Int)} {k:Nat}:livk (toP X) k=(List.range k).filter (lv X):=by
 unfold livk
 refine List.filter_congr fun i _=>?_
 unfold toP lv
 rw [List.getElem?_map]
 cases X[i]? with
 | none=>rfl
 | some p=>
  show (p.2.toNat==1)=(p.2==1)
  rw [Bool.eq_iff_iff,beq_iff_eq,beq_iff_eq]
  omega
theorem Zej {X:List (Int × Int)} {k v:Nat}:v∈livk (toP X) k↔v<k∧lv X v=true:=by
 rw [Q1k,List.mem_filter,List.mem_range]
theorem Zbe {X:List (Int × Int)}:liv (toP X)=livk (toP X) X.length:=by unfold liv livk;rw [Qf1]
theorem Q1h {X:List (Int × Int)} {v:Nat}:v∈liv (toP X)↔lv X v=true:=by
 rw [Zbe,Zej]
 exact ⟨fun h=>h.2,fun h=>⟨Qit h,h⟩⟩
theorem Mdl.map (ok:M.ok) (hr:Rot M.LD M.fr M.nx tl):MP M.N.toNat tl∧(∀d,d∈dl tl M.N.toNat↔M.LD d)∧(∀d,M.LD d→og tl M.N.toNat d=M.fr d∧sg tl M.N.toNat d=M.nx d)∧(∀v,M.X.length≤v→tl v=[])∧VS M.N.toNat tl (liv (toP M.X)):=by
 obtain ⟨⟨a1,a2,_⟩,⟨b1,b2,_⟩,e,_,hd⟩:=ok
 obtain ⟨m1,m2,m3⟩:=hr.map (N:=M.N.toNat) (fun d h=>by have:=Qit (hd d h).1;omega) (fun d h=>by have:=Qit h;omega) (fun d h=>by unfold Mdl.LD;rw [Zkk];exact h)
 have h4:∀v,M.X.length≤v→tl v=[]:=by
  intro v hv
  cases h:tl v with
  | nil=>rfl
  | cons d r=>
   have hm:=(hr.mem v d).1 (by rw [h];simp)
   have:=Qit (hd d hm.1).1
   have:=hm.2;omega
 refine ⟨m1,m2,m3,h4,⟨?_,fun v hv=>?_,fun v _ hne=>?_⟩⟩
 ·exact List.nodup_range.filter _
 ·have:=Qit (Q1h.1 hv);omega
 ·obtain ⟨d,hm⟩:=List.exists_mem_of_ne_nil _ hne
  have hm:=(hr.mem v d).1 hm
  rw [Q1h,←hm.2]
  exact (hd d hm.1).1
theorem Zlj (h:MV w M) (ok:M.ok) (hr:Rot M.LD M.fr M.nx tl) (hR:TF w bad rb M.X.length tl):Calls Pg 109 #[M.val,.slice rb M.X.length rc] w fun r w'=>∃z,r=.returned (.bool z)∧Chg Qaa w w'∧(z=true↔Flt tl M.N.toNat):=by
 refine (Qr6 _ _ _ _ _ _ _ _ _ _ _ _ _).go ?_
 unfold Qlr nr
 obtain ⟨lX,lm⟩:=Mdl.Q9e ok
 obtain ⟨hM,hdl,_,hb,hs⟩:=Mdl.map ok hr
 obtain ⟨⟨a1,a2,_⟩,⟨b1,b2,_⟩,e,_,hd⟩:=ok
 have hLm:∀d,M.LD d→d<2*M.m:=fun d h=>by have:=Qit h;omega
 refine Qak fun A w6 hA c6 r6=>?_
 rw [Qad,Qad]
 refine Qai r6 rfl (Qai r6 rfl ?_)
 have e1:(if (1:Int)>(M.X.length:Int) then (1:Int) else (M.X.length:Int))=((max M.X.length 1:Nat):Int):=by split<;>omega
 have e2:(if (1:Int)>(M.m:Int) then (1:Int) else (M.m:Int))=((max M.m 1:Nat):Int):=by split<;>omega
 rw [e1,e2]
 refine (Zfk (V:=max M.X.length 1) (E:=max M.m 1) (N:=M.N.toNat) (by omega) (by omega) (by omega) hM (hR.nob c6) (by omega) hb fun d hd=>?_).mono ?_
 ·have:=hLm d ((hdl d).1 hd);omega
 rintro r w11 ⟨T,TD,TL,TM,rfl,c11,_,tv⟩
 have r11:=c11.row (fun h=>h) r6
 have c011:=c6.trans c11
 refine ⟨_,_,rfl,Qaj (fun e=>absurd rfl e) (fun _=>Qai r11 rfl ?_)⟩
 let J:Nat→List Value→World→Prop:=fun j vs w'=>∃(k:Nat) (b':Option Addr) (c':Nat),vs=[.slice b' (livk (toP M.X) k).length c',.int .i64 k]∧k≤M.X.length∧Own w' w11.heap.size 3 1 b' (livk (toP M.X) k).length c' (ivs (livk (toP M.X) k))∧Chg Qaa w11 w'∧j=M.X.length-k
 refine ⟨LI J,LM J,⟨_,0,none,0,rfl,Nat.zero_le _,Own.nil,Chg.refl _ _,rfl⟩,?_⟩
 intro _ sb sl sc n17 w18 hJ
 obtain ⟨k,b',c',hvs,hk,ho,ck,hj⟩:=hJ.at
 simp only [vk] at hvs
 obtain ⟨⟨rfl,rfl,rfl⟩,rfl⟩:=hvs
 have c18:=c011.trans ck
 have s11:=ck.size
 refine Qac (fun hlt=>?_) (fun hlt=>?_)<;>simp only [b1s] at hlt
 ·obtain ⟨p,hp⟩:∃p,M.X[k]?=some p:=⟨_,List.getElem?_eq_getElem (by omega)⟩
  have hlv:lv M.X k=(p.2==1):=by unfold lv;rw [hp]
  have hlk:livk (toP M.X) (k+1)=livk (toP M.X) k++(if p.2=1 then [k] else []):=by
   rw [Q1k,Q1k,List.range_succ,List.filter_append]
   congr 1
   rw [List.filter_cons,hlv,List.filter_nil]
   by_cases e:p.2=1<;>simp [e]
  have hle:=Q6m (P:=toP M.X) (k:=k)
  rw [wrap64_in (x:=(k:Int)+1) (by omega) (by omega)]
  refine ldz (h.nob c18).v hp (Qak fun B w23 hB c23 r23=>Qao r23 (by simp) rfl fun w24 c24 r24=>?_)
  rw [Qad]
  refine Qao r24 (by simp) rfl fun w25 c25 r25=>?_
  have c1825:Chg Qaa w18 w25:=(c23.trans' c24 fun k e=>.inr (by omega)).trans' c25 fun k e=>.inr (by omega)
  have ho25:=ho.keep c1825 fun _ _ h=>h
  have s25:=c1825.size
  refine Qaf (n:=p.2) r25 rfl (Qac (fun hp1=>Qak fun B2 w28 hB2 c28 r28=>?_) (fun hp1=>?_))<;>simp only [b1s] at hp1
  ·have s28:=c28.size
   obtain ⟨b2,c2,w30,hrun,ho2,hc2,_⟩:=Qaw (ty:=58) Qdv (ho25.keep c28 fun _ _ h=>h) r28 rfl (by intro u hu;simp at hu;subst hu;rfl) (by omega) (by omega) (by omega)
   refine ⟨b2,_,c2,w30,hrun,?_⟩
   rw [if_pos (by omega)] at hlk
   refine LI.again (k:=M.X.length-(k+1)) ⟨k+1,b2,c2,?_,by omega,?_,((ck.trans c1825).trans c28).trans' hc2 (fun i hi=>.inr (ho.Qar hi).1),rfl⟩ (by rw [hj];omega)
   ·rw [hlk,List.length_append];rfl
   ·rw [hlk,List.length_append];simpa [ivs] using ho2
  ·rw [if_neg (by omega),List.append_nil] at hlk
   refine LI.again (k:=M.X.length-(k+1)) ⟨k+1,sb,sc,?_,by omega,?_,ck.trans c1825,rfl⟩ (by rw [hj];omega)
   ·rw [hlk];rfl
   ·rw [hlk];exact ho25
 ·obtain rfl:k=M.X.length:=by omega
  rw [←Zbe] at ho ⊢
  refine (Zfs (tv.nob ck) hM (VA.Qa6 ho) ⟨hs.nd,fun v hv=>?_,fun v hv hne=>hs.all v (by omega) hne⟩).mono ?_
  ·have:=Qit (Q1h.1 hv);omega
  rintro r w33 ⟨z,rfl,c33,hz⟩
  refine ⟨_,_,rfl,Qac (fun k=>?_) (fun k=>?_)⟩
  ·exact ⟨.inl rfl,true,rfl,c18.trans c33,by rw [k] at hz;exact hz⟩
  ·exact ⟨false,rfl,c18.trans c33,by rw [k] at hz;exact hz⟩
theorem Za6 (h:MV w M):Calls Pg 39 #[M.val] w fun r w'=>Chg Qaa w w'∧
  ((∃A tl,r=.returned (.tuple #[.slice (some ⟨A,0,none⟩) M.X.length M.X.length,errV 0])∧M.ok∧TF w' (fun k=>k<w.heap.size) (some ⟨A,0,none⟩) M.X.length tl∧Rot M.LD M.fr M.nx tl∧Flt tl M.N.toNat)∨
   (r=.returned (.tuple #[.slice none 0 0,errV 17])∧(M.ok→∀tl,Rot M.LD M.fr M.nx tl→∃tl,Rot M.LD M.fr M.nx tl∧¬Flt tl M.N.toNat))):=by
 refine (Qzc _ _ _ _ _ _ _ _ _ _).go ?_
 unfold Qvn nr
 refine Qak fun A w5 hA c5 r5=>ldM r5 ((Zis (h.nob c5)).mono ?_)
 rintro r w11 ⟨z,rfl,c11,hz⟩
 have r11:=c11.row (fun h=>h) r5
 have c011:=c5.trans c11
 refine ⟨_,rfl,Qac (fun k=>?_) (fun k=>?_)⟩
 ·have:z=false:=by simpa using k
  subst this
  exact ⟨c011,.inr ⟨rfl,fun ok=>absurd (hz.2 ok) (by decide)⟩⟩
 have:z=true:=by simpa using k
 subst this
 have ok:=hz.1 rfl
 refine ldM r11 ((Zek (h.nob c011) ok).mono ?_)
 rintro r w19 ⟨c19,⟨A1,tl,rfl,tf,hr⟩ | ⟨rfl,hno⟩⟩
 ·have r19:=c19.row (fun h=>h) r11
  have c019:=c011.trans c19
  refine ⟨_,_,_,_,rfl,Qac (fun k=>by cases k) (fun _=>ldM r19 ((Zlj (h.nob c019) ok hr tf).mono ?_))⟩
  rintro r w26 ⟨z,rfl,c26,hz⟩
  refine ⟨_,rfl,Qac (fun k=>?_) (fun k=>?_)⟩
  ·have:z=false:=by simpa using k
   subst this
   exact ⟨c019.trans c26,.inr ⟨rfl,fun _ _ _=>⟨tl,hr,fun hf=>absurd (hz.2 hf) (by decide)⟩⟩⟩
  ·have:z=true:=by simpa using k
   subst this
   have:=c011.size
   exact ⟨c019.trans c26,.inl ⟨A1,tl,rfl,ok,(tf.nob c26).weak fun i hi=>(by omega),hr,hz.1 rfl⟩⟩
 ·exact ⟨_,_,_,_,rfl,Qac (fun _=>⟨c011.trans c19,.inr ⟨rfl,fun _ tl hr=>absurd ⟨tl,hr⟩ hno⟩⟩) (fun k=>by cases k)⟩
end
structure LO (w:World) (s:Nat) (M:Mdl) (S:Nat) (tl:Nat→List Nat) (A1 A2:Nat) (b:Bk) (q:List (List Nat)) (B D:Nat→Option (Nat × Nat)) (ky:Nat→Int):Prop where
 ok:M.ok
 rot:Rot M.LD M.fr M.nx tl
 flt:Flt tl M.N.toNat
 r:Row w.heap S 52 [.pointer (some ⟨A1,0,none⟩),.pointer (some ⟨A2,0,none⟩),.pointer (some ⟨b.M,0,none⟩)]
 a:∃s1 s2 s3 S1 L1 W1 b1 c1 S2 L2 W2 b2 c2,AQ w A1 S1 L1 W1 M.N.toNat (toP M.X) b1 c1∧AQ w A2 S2 L2 W2 M.N.toNat (toP M.Y) b2 c2∧s≤s1∧s1≤s2∧s2≤s3∧
  (∀k,(k=A1∨k=S1∨k=L1∨k=W1∨bk b1=some k)→s≤k∧k<s1)∧(∀k,(k=A2∨k=S2∨k=L2∨k=W2∨bk b2=some k)→s1≤k∧k<s2)∧(∀k,b.has k→s2≤k∧k<s3)∧s3≤S
 g:GM w.heap b M.N.toNat (fun v=>decide (v∈liv (toP M.X))) tl q B D ky
 k:∀e,Laid tl M.N.toNat e→ky e=M.W e*1048576+e
section
variable {w w':World} {M:Mdl}
theorem Q91 {f:Nat→Int} (x:Nat):((fun e=>[Value.int .i32 (f e)]) x).length=1:=rfl
theorem Q7p {f:Nat→Int}:∀{n:Nat},recs (fun e=>[Value.int .i32 (f e)]) n=((List.range n).map f).map (.int .i32)
 | 0=>rfl
 | n+1=>by rw [Qd6,Q7p,List.range_succ,List.map_append,List.map_append];rfl
theorem AQ.low {A S L W n c:Nat} {P:List (Nat × Nat)} {b:Option Addr} (h:AQ w A S L W n P b c) (k:Nat) (hk:k=A∨k=S∨k=L∨k=W∨bk b=some k):k<w.heap.size:=by
 obtain ⟨t1,t2,t3⟩:=h.lt
 rcases hk with rfl | rfl | rfl | rfl | hk
 ·exact h.r.lt
 ·exact t1
 ·exact t2
 ·exact t3
 ·exact (h.o.Qar hk).2
theorem l_Of (h:MV w M) (hW:∀e,e<M.m→-2147483648≤M.W e∧M.W e≤2147483647):Calls Pg 9 #[M.val] w fun r w'=>Chg Qaa w w'∧
  ((∃S tl A1 A2 b q B D ky,r=.returned (.tuple #[.pointer (some ⟨S,0,none⟩),errV 0])∧LO w' w.heap.size M S tl A1 A2 b q B D ky)∨
   (r=.returned (.tuple #[.pointer none,errV 17])∧(M.ok→∀tl,Rot M.LD M.fr M.nx tl→∃tl,Rot M.LD M.fr M.nx tl∧¬Flt tl M.N.toNat))):=by
 refine (Q4p _ _ _ _ _ _ _ _ _ _).go ?_
 unfold Q2w nr
 refine Qak fun A w5 hA c5 r5=>ldM r5 ((Za6 (h.nob c5)).mono ?_)
 rintro r w12 ⟨c12,⟨A0,tl,rfl,ok,tf,hr,hf⟩ | ⟨rfl,hno⟩⟩
 rotate_left
 ·exact ⟨_,_,_,_,rfl,Qaj (fun _=>⟨c5.trans c12,.inr ⟨rfl,hno⟩⟩) (fun e=>absurd e (by decide))⟩
 obtain ⟨lX,lm⟩:=Mdl.Q9e ok
 obtain ⟨hM,hdl,_,hb,hs⟩:=Mdl.map ok hr
 have ok':=ok
 obtain ⟨o1,o2,eY,_,hd⟩:=ok
 obtain ⟨a1,a2,_⟩:=o1
 obtain ⟨b1,b2,_⟩:=o2
 have s5:=c5.size
 have s12:=c12.size
 have c012:=c5.trans c12
 have r12:=c12.row (fun h=>h) r5
 refine ⟨_,_,_,_,rfl,Qaj (fun e=>absurd rfl e) (fun _=>Qaf (n:=M.N) r12 rfl ?_)⟩
 rw [Qad,Qad,Qad]
 refine Qai r12 rfl ((Q0v (h.nob c012).v h.x h.lx).mono ?_)
 rintro r w18 ⟨c18,_,k2⟩
 obtain ⟨A1,S1,L1,W1,p1,q1,rfl,ar1,e1,e2,e3,e4,e5⟩:=k2 ok'.1
 have s18:=c18.size
 have c018:=c012.trans c18
 have r18:=c18.row (fun h=>h) r12
 refine ⟨_,_,rfl,Qaf (n:=M.N) r18 rfl (Qai r18 rfl ((Q0v (h.nob c018).e h.y h.ly).mono ?_))⟩
 rintro r w24 ⟨c24,_,k4⟩
 obtain ⟨A2,S2,L2,W2,p2,q2,rfl,ar2,f1,f2,f3,f4,f5⟩:=k4 ok'.2.1
 have s24:=c24.size
 have c024:=c018.trans c24
 have r24:=c24.row (fun h=>h) r18
 refine ⟨_,_,rfl,fun us w'=>us=[]∧w'=w24,Qaj (fun e=>absurd rfl e) (fun _=>Qaj (fun e=>absurd rfl e) (fun _=>⟨rfl,rfl⟩)),?_⟩
 rintro _ w27 ⟨_,e27⟩
 rw [e27]
 refine Qai r24 rfl ⟨by omega,Int.le_refl _,by omega,Qak fun E w30 hE c30 r30=>Qai (c30.row (fun h=>h) r24) rfl ?_⟩
 rw [Int.toNat_natCast] at r30 ⊢
 have s30:=c30.size
 have r30':Row w30.heap E 21 (recs (fun e=>[Value.int .i32 ((fun e=>if e<0 then M.W e else 0) e)]) M.m):=by
  rw [Qas] at r30
  simpa using r30
 have c030:=c024.trans c30
 have lE:=r30.lt
 let J:Nat→List Value→World→Prop:=fun j us w'=>∃i:Nat,us=[.int .i64 i]∧i≤M.m∧Row w'.heap E 21 (recs (fun e=>[Value.int .i32 ((fun e=>if e<i then M.W e else 0) e)]) M.m)∧Chg (fun k=>k=E) w30 w'∧j=M.m-i
 refine ⟨LI J,LM J,⟨_,0,rfl,by omega,r30',Chg.refl _ _,rfl⟩,?_⟩
 intro _ i w35 hJ
 obtain ⟨i,hvs,hi,rE,ck,hj⟩:=hJ.at
 simp only [vj] at hvs
 subst hvs
 have cw:Chg Qaa w24 w35:=c30.trans' ck fun k e=>.inr (by omega)
 have c035:=c024.trans cw
 refine Qac (fun hlt=>?_) (fun hlt=>?_)<;>simp only [b1s] at hlt
 ·have him:i<M.m:=by omega
  rw [wrap64_in (x:=(i:Int)+1) (by omega) (by omega),show ((i:Int)+1)=((i+1:Nat):Int) by omega]
  refine ldE (h.nob c035).l him (Qak fun B w43 hB c43 r43=>Qd3 r43 rfl (by intro v hv;simp at hv;rcases hv with rfl | rfl | rfl | rfl | rfl<;>rfl) fun w44 c44 r44=>?_)
  have c3544:Chg Qaa w35 w44:=c43.trans' c44 fun k e=>.inr (by omega)
  rw [Qad]
  refine Qaf (n:=M.W i) r44 rfl (Qat him (Qao (c3544.row (fun h=>h) rE) (by rw [Qah (sz:=1) (fun e=>[Value.int .i32 ((fun e=>if e<i then M.W e else 0) e)]) Q91];omega) rfl fun w47 c47 r47=>?_))
  rw [show 0+i*1=i*1+0 by omega,Qca (sz:=1) (fun e=>[Value.int .i32 ((fun e=>if e<i then M.W e else 0) e)]) Q91 (g:=fun e=>[Value.int .i32 ((fun e=>if e<i+1 then M.W e else 0) e)]) him (by omega) (fun j hj=>by
   show [Value.int .i32 (if j<i+1 then M.W j else 0)]=[Value.int .i32 (if j<i then M.W j else 0)]
   by_cases hji:j<i
   ·rw [if_pos hji,if_pos (by omega)]
   ·rw [if_neg hji,if_neg (by omega)]) (by
   show [Value.int .i32 (if i<i+1 then M.W i else 0)]=_
   rw [if_pos (by omega)];rfl)] at r47
  exact LI.again (k:=M.m-(i+1)) ⟨i+1,rfl,by omega,r47,(ck.trans (c3544.mono fun _ _ h=>h.elim)).trans c47,rfl⟩ (by rw [hj];omega)
 ·obtain rfl:i=M.m:=by omega
  have rE':Row w35.heap E 21 (((List.range M.m).map M.W).map (.int .i32)):=by
   rw [←Q7p]
   rw [Qbb (g:=fun e=>[Value.int .i32 (M.W e)]) fun e he=>by show [Value.int .i32 (if e<M.m then M.W e else 0)]=_;rw [if_pos he]] at rE
   exact rE
  have hwl:((List.range M.m).map M.W).length=M.m:=by simp
  have r35:=cw.row (fun h=>h) r24
  have ar135:=(ar1.nob c24).nob cw
  have ar235:=ar2.nob cw
  refine Qaf (w:=w35.drew) (n:=M.N) r35 rfl ((Zjx (w:=w35.drew) (ar135.nob (Chg.refl _ _).drew)).mono ?_)
  rintro r w50 ⟨b',c',rfl,ho,c50⟩
  have c3550:Chg Qaa w35 w50:=(Chg.refl Qaa w35).drew.trans c50
  have r50:=c3550.row (fun h=>h) r35
  have s50:=c3550.size
  refine ⟨_,_,_,rfl,by rw [r50.cell];rfl,?_⟩
  have tf50:=tf.nob (((c18.trans c24).trans cw).trans c3550)
  have kk:=k_Of (vc:=c') (rc:=M.X.length) (sc:=M.m) (N:=M.N.toNat) (w:=w50) (by omega) (by omega) hM tf50 (by omega) hb (VA.Qa6 ho) hs (VA.Qgm (c3550.row (fun h=>h) rE') (by rw [List.length_map,Nat.mul_one])) (fun x hx=>by
   obtain ⟨e,he,rfl⟩:=List.mem_map.1 hx
   exact hW e (List.mem_range.1 he)) (by rw [hwl];omega)
  rw [hwl,show ((M.N.toNat:Nat):Int)=M.N by omega] at kk
  refine kk.mono ?_
  rintro r w54 ⟨c54,k1,_⟩
  obtain ⟨b,q,B,D,ky,rfl,gm,hlo,hky⟩:=k1 hf
  have s54:=c54.size
  have s35:=cw.size
  refine ⟨_,_,rfl,Qaj (fun e=>absurd rfl e) (fun _=>Qak fun S w57 hS c57 r57=>?_)⟩
  have c057:=(c035.trans c3550).trans (c54.trans c57)
  have c3557:=c3550.trans (c54.trans c57)
  refine ⟨c057,.inl ⟨S,tl,A1,A2,b,q,B,D,ky,rfl,ok',hr,hf,r57,⟨w18.heap.size,w24.heap.size,w54.heap.size,S1,L1,W1,p1,q1,S2,L2,W2,p2,q2,ar135.nob c3557,ar235.nob c3557,?_,?_,?_,fun k hk=>⟨?_,ar1.low k hk⟩,fun k hk=>⟨?_,ar2.low k hk⟩,fun k hk=>⟨?_,gm.toMR.x.lowA k hk⟩,hS⟩,gm.keep c57 (fun _ h=>h.elim),fun e he=>?_⟩⟩
  ·omega
  ·omega
  ·omega
  ·rcases hk with rfl | rfl | rfl | rfl | hk
   ·omega
   ·omega
   ·omega
   ·omega
   ·have:=e5 k hk;omega
  ·rcases hk with rfl | rfl | rfl | rfl | hk
   ·omega
   ·omega
   ·omega
   ·omega
   ·have:=f5 k hk;omega
  ·have:=hlo k hk;omega
  ·rw [hky e he]
   have hem:e<M.m:=by
    have h1:=(hdl (2*e)).1 he
    have:=Qit h1;omega
   unfold wt
   rw [List.getElem?_map,List.getElem?_range hem]
   rfl
end
end Core
end Go.Proofs.YtfeekmmfdkfgmaaGreatDoor
