/-
The references' faces, all of them; the laid edges as a list, and which of two is less.
Conditions: those that each theorem states.
-/
import Derived.Test.YtfeekmmfdkfgmaaGreatDoorCoreY
import Derived.Test.YtfeekmmfdkfgmaaGreatDoorGRefC
import Derived.Test.YtfeekmmfdkfgmaaGreatDoorHsh
set_option linter.unusedVariables false
set_option linter.unusedSimpArgs false
namespace Go.Proofs.YtfeekmmfdkfgmaaGreatDoor
open Go Go.RowKit
namespace Core
set_option linter.ambiguousOpen false
open Seq Cut Web
section
variable {w w':World} {bad:Nat→Prop} {b lb tb wb:Option Addr} {c lc tc wc' N d e i j u v x y:Nat} {A L:List Nat} {tl:Nat→List Nat} {lv:Nat→Bool} {W:Nat→Int} {q:List (List Nat)} {B D:Nat→Option (Nat × Nat)} {lim S:Nat→Prop} {enc:Nat→List Value} {n:Nat} {A':Nat→List Nat}
structure Fcs (tl:Nat→List Nat) (N:Nat) (l:Nat) (X:Nat→List Nat):Prop where
 o:∀j,j<l→∃d,Orb tl N d (X j)
 a:∀x,x∈dl tl N→∃j,j<l∧x∈X j
 u:∀i j x,i<l→j<l→x∈X i→x∈X j→i=j
theorem Orb.Qkk (h:Orb tl N d L) (hx:x∈L):y∈L↔PF tl N x y:=by
 have hd:PF tl N d x:=h.pf.1 hx
 have key:∀{u v},u∈L→PF tl N u v→v∈L:=fun {u v} hu k=>by
  induction k with
  | refl=>exact hu
  | step _ k ih=>
   subst k
   obtain ⟨z,hz⟩:=Q6w ih
   rw [h.c _ z hz];exact hz.mem.2
 constructor
 ·intro hy
  refine RT.mono (fun u v k=>(h.c u v k).symm) (Q6v hx hy)
 ·exact key hx
theorem Zk4 {n m:Nat} (h:TF w bad b n tl) (hM:MP N tl) (orb:∀d,d∈dl tl N→∃L,Orb tl N d L) (z:Sz N n m tl):Calls Pg 156 #[.agg #[.int .i64 (m:Nat),.slice b n c]] w fun r w'=>∃b' l c' X,r=.returned (.slice b' l c')∧Chg Qaa w w'∧TF w' (fun k=>k<w.heap.size) b' l X∧l≤2*N∧Fcs tl N l X:=by
 refine (Qu8 _ _ _ _).go ?_
 unfold Qps nr
 have zm:=z.em
 have zN:=z.nN
 refine Qak fun A1 w1 hA1 c1 r1=>Qdw r1 ((Q37 (h.nob c1) hM.toND z).mono ?_)
 rintro r w2 ⟨_,rfl,c2,b2,c2',rfl,v2,o2,_⟩
 have s1:=c1.size
 have s2:=c2.size
 have l1:=r1.lt
 let DL:=(List.range (2*m)).filter fun d=>decide (d∈dl tl N)
 have hDm:∀{x},x∈DL↔x∈dl tl N:=fun {x}=>by
  show x∈(List.range (2*m)).filter _↔_
  rw [List.mem_filter,List.mem_range,decide_eq_true_iff]
  exact ⟨fun h=>h.2,fun h=>⟨z.e x h,h⟩⟩
 have hDl:DL.length≤2*N:=by
  have:=List.length_filter_le (fun d=>decide (d∈dl tl N)) (List.range (2*m))
  rw [List.length_range] at this
  exact Nat.le_trans this (by omega)
 have hDs:DL.Pairwise (· < ·):=List.Pairwise.filter _ List.pairwise_lt_range
 have hex:∀d,∃L,d∈dl tl N→Orb tl N d L:=fun d=>by
  by_cases h:d∈dl tl N
  ·obtain ⟨R,hR⟩:=orb d h;exact ⟨_,fun _=>hR⟩
  ·exact ⟨[],fun k=>absurd k h⟩
 obtain ⟨W',hW'⟩:=Classical.axiomOfChoice hex
 have hW:∀{d},d∈dl tl N→Orb tl N d (W' d):=fun {d}=>hW' d
 let lst:Nat→Bool:=fun d=>decide (∀y∈W' d,d≤y)
 let OUT:Nat→List Nat:=fun i=>(DL.take i).filter lst
 let J:Nat→List Value→World→Prop:=fun jj vs w'=>∃(i:Nat) (b':Option Addr) (c':Nat) (V:Nat→Value),vs=[.slice b' (OUT i).length c',.int .i64 i]∧i≤DL.length∧Chg Qaa w2 w'∧Own w' w2.heap.size 58 1 b' (OUT i).length c' (recs (fun k=>[V k]) (OUT i).length)∧
  (∀k d,(OUT i)[k]?=some d→LA w' (fun g=>g<w.heap.size∨bk b'=some g) (V k) (W' d))∧jj=DL.length-i
 refine ⟨_,_,_,rfl,LI J,LM J,⟨_,0,none,0,fun _=>.nilIface,rfl,by omega,Chg.refl _ _,Own.nil,fun k d hk=>by simp [OUT] at hk,rfl⟩,?_⟩
 intro _ sb sl sc ii w3 hJ
 obtain ⟨i,b',c',V,hvs,hi,ck,ow,hV,hj⟩:=hJ.at
 simp only [vk] at hvs
 obtain ⟨⟨rfl,rfl,rfl⟩,rfl⟩:=hvs
 have s3:=ck.size
 have hOl:(OUT i).length≤2*N:=by
  have h1:=List.length_filter_le lst (DL.take i)
  have h2:=List.length_take_le i DL
  show ((DL.take i).filter lst).length≤_
  omega
 refine Qac (fun k1=>?_) (fun k1=>?_)<;>simp only [b1s] at k1
 ·have hiD:i<DL.length:=by
   have:(i:Int)<(DL.length:Nat):=k1
   omega
  obtain ⟨d,hd⟩:∃d,DL[i]?=some d:=⟨_,List.getElem?_eq_getElem hiD⟩
  have hdl:=hDm.1 (List.mem_of_getElem? hd)
  have hor:=hW hdl
  have c4:=ck.trans (Chg.refl Qaa w3).drew
  have c34:Chg Qaa w3 w3.drew:=(Chg.refl Qaa w3).drew
  have s4:=c34.size
  refine Qdw (c4.row (fun h=>h) (c2.row (fun h=>h) r1)) (rdI (v2.nob c4) hd ((Zf4 (h.nob ((c1.trans c2).trans c4)) hM z hor).mono ?_))
  rintro r w5 ⟨_,rfl,c5,b5,c5',rfl,v5,o5,hc5⟩
  have c25:=c4.trans c5
  have s5:=c5.size
  have ow5:Own w5 w2.heap.size 58 1 sb (OUT i).length sc (recs (fun k=>[V k]) (OUT i).length):=ow.chg (c34.trans c5) fun _ _ _ h=>h
  have hV5:∀k d,(OUT i)[k]?=some d→LA w5 (fun g=>g<w.heap.size∨bk sb=some g) (V k) (W' d):=fun k d hk=>(hV k d hk).nob (c34.trans c5)
  refine ⟨_,_,_,rfl,rdI (v2.nob c25) hd ?_⟩
  have hlen:=hor.len hM.toND
  let J2:Nat→List Value→World→Prop:=fun jj vs w'=>∃(k:Nat) (mn:Nat),vs=[.int .i64 mn,.int .i64 k]∧k≤(W' d).length∧w'=w5∧(mn≤d∧(∀y∈(W' d).take k,mn≤y)∧(mn=d∨mn∈(W' d).take k))∧jj=(W' d).length-k
  refine ⟨LI J2,LM J2,⟨_,0,d,rfl,by omega,rfl,⟨Nat.le_refl _,by simp,.inl rfl⟩,rfl⟩,?_⟩
  intro _ mn k w6 hJ2
  obtain ⟨k,mn,hvs,hk,rfl,⟨m1,m2,m3⟩,hj2⟩:=hJ2.at
  simp only [vj] at hvs
  obtain ⟨rfl,rfl⟩:=hvs
  refine Qac (fun k2=>?_) (fun k2=>?_)<;>simp only [b1s] at k2
  ·have hkL:k<(W' d).length:=by omega
   obtain ⟨y,hy⟩:∃y,(W' d)[k]?=some y:=⟨_,List.getElem?_eq_getElem hkL⟩
   refine rdI v5 hy ?_
   rw [wrap64_in (x:=(k:Int)+1) (by omega) (by omega)]
   have et:(W' d).take (k+1)=(W' d).take k++[y]:=by rw [List.take_add_one,hy];rfl
   have e:(if (y:Int)<(mn:Int) then (y:Int) else (mn:Int))=((min y mn:Nat):Int):=by split<;>omega
   rw [e]
   refine LI.again (k:=(W' d).length-(k+1)) ⟨k+1,min y mn,rfl,by omega,rfl,⟨by omega,fun z hz=>?_,?_⟩,rfl⟩ (by rw [hj2];omega)
   ·rw [et,List.mem_append,List.mem_singleton] at hz
    rcases hz with hz | rfl
    ·have:=m2 z hz;omega
    ·omega
   ·rw [et,List.mem_append,List.mem_singleton]
    rcases Nat.lt_or_ge y mn with h | h
    ·exact .inr (.inr (by omega))
    ·rw [show min y mn=mn by omega]
     exact m3.imp id .inl
  ·have hk:k=(W' d).length:=by omega
   subst hk
   rw [List.take_length] at m2 m3
   have hls:mn=d↔lst d=true:=by
    show _↔decide _=true
    rw [decide_eq_true_iff]
    constructor
    ·rintro rfl;exact m2
    ·intro h
     rcases m3 with h3 | h3
     ·exact h3
     ·have:=h mn h3;omega
   refine rdI (v2.nob c25) hd ?_
   have eO:OUT (i+1)=OUT i++if lst d=true then [d] else []:=by
    show (DL.take (i+1)).filter lst=(DL.take i).filter lst++_
    rw [List.take_add_one,hd,List.filter_append]
    congr 1
    by_cases h:lst d=true
    ·rw [if_pos h];simp [h]
    ·rw [if_neg h];simp [h]
   rw [wrap64_in (x:=(i:Int)+1) (by omega) (by omega)]
   refine Qac (fun k3=>Qak fun A2 w7 hA2 c7 r7=>?_) (fun k3=>?_)<;>simp only [b1s] at k3
   ·have hlt:lst d=true:=hls.1 (by omega)
    rw [if_pos hlt] at eO
    have ow7:=ow5.chg c7 fun _ _ _ h=>h
    have s7:=c7.size
    obtain ⟨b8,c8',w8,g8,o8,c8,hb8⟩:=Qb0 (sc:=1) Qzi ow7 (ty:=38) (VA.Qgm (l:=1) (sz:=1) r7 rfl) (by simp [oneC]) (by omega) (by omega) (by omega) (by omega)
    refine ⟨_,_,_,_,g8,?_⟩
    have eL:(OUT i).length+1=(OUT (i+1)).length:=by rw [eO];simp
    let V':Nat→Value:=upd V (OUT i).length (.slice b5 (W' d).length c5')
    have eR:recs (fun k=>[V k]) (OUT i).length++[.slice b5 (W' d).length c5']=recs (fun k=>[V' k]) (OUT (i+1)).length:=by
     rw [←eL,Qd6]
     have:V' (OUT i).length=.slice b5 (W' d).length c5':=by show upd _ _ _ _=_;rw [Qab]
     rw [this,Qbb (f:=fun k=>[V k]) (g:=fun k=>[V' k]) fun k hk=>by show [V k]=[upd _ _ _ _];rw [Qag _ _ (by omega)]]
    rw [eR] at o8
    have cc8:Chg Qaa w2 w8:=(c25.trans c7).trans' c8 fun g e=>.inr (ow7.Qar e).1
    rw [eL] at o8 ⊢
    have okb:∀{X:Value} {Y:List Nat},LA w7 (fun g=>g<w.heap.size∨bk sb=some g) X Y→LA w8 (fun g=>g<w.heap.size∨bk b8=some g) X Y:=fun {X Y} hh=>by
     obtain ⟨bx,cx,rfl,x1,x2,x3⟩:=hh.keep c8 fun g e=>.inr e
     refine ⟨bx,cx,rfl,x1,fun g hg e hb=>?_,x3⟩
     rcases hb with hb | hb
     ·exact x2 g hg e (.inl hb)
     ·rcases hb8 with h9 | h9
      ·rw [h9] at hb;exact x2 g hg e (.inr hb)
      ·rw [h9] at hb
       obtain rfl:w7.heap.size=g:=Option.some.inj hb
       obtain ⟨bx',cx',hbx,x1',_,_⟩:=hh
       simp only [Value.slice.injEq] at hbx
       obtain ⟨rfl,_,rfl⟩:=hbx
       obtain ⟨g',e',hlt'⟩:=x1'.blk hg
       rw [e'] at e;cases e;omega
    refine LI.again (k:=DL.length-(i+1)) ⟨i+1,_,_,V',rfl,by omega,cc8,o8,fun k d' hk=>?_,rfl⟩ (by rw [hj];omega)
    rw [eO] at hk
    rcases Nat.lt_or_ge k (OUT i).length with hkl | hkl
    ·rw [List.getElem?_append_left hkl] at hk
     show LA w8 _ (upd _ _ _ _) _
     rw [Qag _ _ (by omega)]
     exact okb ((hV5 k d' hk).nob c7)
    ·rw [List.getElem?_append_right hkl] at hk
     have hk0:k-(OUT i).length=0:=by
      have:=(List.getElem?_eq_some_iff.1 hk).1
      simp at this;omega
     rw [hk0] at hk
     obtain rfl:d=d':=by simpa using hk
     obtain rfl:k=(OUT i).length:=by omega
     show LA w8 _ (upd _ _ _ _) _
     rw [Qab]
     refine okb (LA.nob ⟨b5,c5',rfl,v5,fun g hg e hb=>?_,hc5⟩ c7)
     rcases hb with hb | hb
     ·exact o5 g hg e (by omega)
     ·have:=(ow.Qar hb).2
      exact o5 g hg e (by omega)
   ·have hlt:¬lst d=true:=fun h=>by have:=hls.2 h;omega
    rw [if_neg hlt,List.append_nil] at eO
    exact LI.again (k:=DL.length-(i+1)) ⟨i+1,sb,sc,V,by rw [eO];rfl,by omega,c25,by rw [eO];exact ow5,by rw [eO];exact hV5,rfl⟩ (by rw [hj];omega)
 ·have hiD:i=DL.length:=by
   have:¬((i:Int)<(DL.length:Nat)):=k1
   omega
  have cw:Chg Qaa w w3:=(c1.trans c2).trans ck
  refine ⟨_,_,_,fun k=>W' ((OUT i).getD k 0),rfl,cw,⟨V,VA.Qa6 ow,fun g hg e hb=>by have:=(ow.Qar e).1;omega,fun k hk=>?_⟩,hOl,?_⟩
  ·have hk':(OUT i)[k]?=some ((OUT i).getD k 0):=by rw [List.getD_eq_getElem?_getD,List.getElem?_eq_getElem hk];rfl
   exact (hV k _ hk').weak fun g=>.inl
  have hO:OUT i=DL.filter lst:=by show (DL.take i).filter lst=_;rw [hiD,List.take_length]
  have hOm:∀{x},x∈OUT i↔x∈dl tl N∧∀y∈W' x,x≤y:=fun {x}=>by
   rw [hO,List.mem_filter,hDm]
   show _∧decide _=true↔_
   rw [decide_eq_true_iff]
  have hat:∀{k},k<(OUT i).length→(OUT i).getD k 0∈OUT i:=fun {k} hk=>by
   rw [List.getD_eq_getElem?_getD,List.getElem?_eq_getElem hk]
   exact List.getElem_mem hk
  refine ⟨fun k hk=>⟨_,hW (hOm.1 (hat hk)).1⟩,fun x hx=>?_,fun k k' x hk hk' h1 h2=>?_⟩
  ·have ho:=hW hx
   have hxm:x∈W' x:=List.mem_of_head? ho.h
   obtain ⟨m,_,hm,hml⟩:=Qla (Q:=fun y=>y∈W' x) hxm
   have hmd:=ho.m m hm
   have hom:=hW hmd
   have hmem:m∈OUT i:=hOm.2 ⟨hmd,fun y hy=>by
    have:y∈W' x:=(ho.Qkk hm).2 (hom.pf.1 hy)
    exact Nat.le_of_not_lt fun k=>hml y k this⟩
   obtain ⟨k,hk⟩:=List.getElem?_of_mem hmem
   refine ⟨k,(List.getElem?_eq_some_iff.1 hk).1,?_⟩
   rw [List.getD_eq_getElem?_getD,hk]
   exact hom.pf.2 ((ho.Qkk hm).1 hxm)
  ·have a1:=hOm.1 (hat hk)
   have a2:=hOm.1 (hat hk')
   have o1:=hW a1.1
   have o2:=hW a2.1
   have e:(OUT i).getD k 0=(OUT i).getD k' 0:=by
    have h3:(OUT i).getD k' 0∈W' ((OUT i).getD k 0):=(o1.Qkk h1).2 ((o2.Qkk h2).1 (List.mem_of_head? o2.h))
    have h4:(OUT i).getD k 0∈W' ((OUT i).getD k' 0):=(o2.Qkk h2).2 ((o1.Qkk h1).1 (List.mem_of_head? o1.h))
    have:=a1.2 _ h3
    have:=a2.2 _ h4
    omega
   have nd:(OUT i).Nodup:=by rw [hO];exact (hDs.imp fun h=>by omega).filter _
   refine (List.getElem?_inj hk nd (j:=k')).1 ?_
   rw [List.getElem?_eq_getElem hk,List.getElem?_eq_getElem hk']
   rw [List.getD_eq_getElem?_getD,List.getD_eq_getElem?_getD,List.getElem?_eq_getElem hk,List.getElem?_eq_getElem hk'] at e
   exact congrArg some e
def eL (tl:Nat→List Nat) (N:Nat):List Nat:=(List.range N).filter fun e=>decide (2*e∈dl tl N)
theorem Qku {f:Nat→List Value} {s:Nat} (hf:∀x,(f x).length=s):∀{A:List Nat} {i e j:Nat},A[i]?=some e→j<s→(A.flatMap f)[i*s+j]?=(f e)[j]?
 | [],i,e,j,h,_=>by simp at h
 | a::A,0,e,j,h,hj=>by
  obtain rfl:a=e:=by simpa using h
  rw [List.flatMap_cons,Nat.zero_mul,Nat.zero_add,List.getElem?_append_left (by rw [hf];exact hj)]
 | a::A,i+1,e,j,h,hj=>by
  rw [List.flatMap_cons,List.getElem?_append_right (by rw [hf,Nat.succ_mul];omega),hf,show (i+1)*s+j-s=i*s+j by rw [Nat.succ_mul];omega]
  exact Qku hf (by simpa using h) hj
end
end Core
end Go.Proofs.YtfeekmmfdkfgmaaGreatDoor
