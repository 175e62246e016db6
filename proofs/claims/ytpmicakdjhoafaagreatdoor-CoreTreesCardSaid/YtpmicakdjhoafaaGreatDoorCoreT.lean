/-
The references' faces, all of them; the laid edges as a list, and which of two is less.
Conditions: those that each theorem states.
-/
import Derived.Test.YtpmicakdjhoafaaGreatDoorCoreY
import Derived.Test.YtpmicakdjhoafaaGreatDoorGRefC
import Derived.Test.YtpmicakdjhoafaaGreatDoorShPlaitref16
set_option linter.unusedVariables false
set_option linter.unusedSimpArgs false
namespace Go.Proofs.YtpmicakdjhoafaaGreatDoor
open Go Go.RowKit
namespace Core
open Go.Proofs.YtpmicakdjhoafaaGreatDoor.Seq Go.Proofs.YtpmicakdjhoafaaGreatDoor.Cut Go.Proofs.YtpmicakdjhoafaaGreatDoor.Web
section
variable {w w':World} {bad:Nat→Prop} {b lb tb wb:Option Addr} {c lc tc wc' N d e i j u v x y:Nat} {A L:List Nat} {tl:Nat→List Nat} {lv:Nat→Bool} {W:Nat→Int} {q:List (List Nat)} {B D:Nat→Option (Nat × Nat)} {lim S:Nat→Prop} {enc:Nat→List Value} {n:Nat} {A':Nat→List Nat}
structure Fcs (tl:Nat→List Nat) (N:Nat) (l:Nat) (X:Nat→List Nat):Prop where
 o:∀j,j<l→∃d,Orb tl N d (X j)
 a:∀x,x∈dl tl N→∃j,j<l∧x∈X j
 u:∀i j x,i<l→j<l→x∈X i→x∈X j→i=j
theorem Orb.Qs3 (h:Orb tl N d L) (hx:x∈L):y∈L↔PF tl N x y:=by
 have hd:PF tl N d x:=h.pf.1 hx
 have key:∀{u v},u∈L→PF tl N u v→v∈L:=fun {u v} hu k=>by
  induction k with
  | refl=>exact hu
  | step _ k ih=>
   subst k
   obtain ⟨z,hz⟩:=Qyb ih
   rw [h.c _ z hz];exact hz.mem.2
 constructor
 ·intro hy
  refine RT.mono (fun u v k=>(h.c u v k).symm) (cy_rt hx hy)
 ·exact key hx
theorem Fcs.same (h:Fcs tl N n A') (hi:i<n) (hj:j<n) (hx:x∈A' i) (hy:y∈A' j):i=j↔PF tl N x y:=by
 obtain ⟨d,o⟩:=h.o i hi
 constructor
 ·rintro rfl;exact (o.Qs3 hx).1 hy
 ·intro k;exact h.u i j y hi hj ((o.Qs3 hx).2 k) hy
theorem r_All (h:TF w bad b N tl) (cb:CB lim N tl q B D) (h1:1≤N) (hN:N≤1048576):Calls Pg Qit #[.agg #[.int .i64 (N:Nat),.slice b N c]] w fun r w'=>∃b' l c' X,r=.returned (.slice b' l c')∧Chg Qac w w'∧TF w' (fun k=>k<w.heap.size) b' l X∧l≤2*N∧Fcs tl N l X:=by
 refine (Qp2 _ _ _ _ _ (fun v' w'=>∃b' l c' X,v'=.slice b' l c'∧Chg Qac w w'∧TF w' (fun k=>k<w.heap.size) b' l X∧l≤2*N∧Fcs tl N l X) ?_).mono (by rintro e w' ⟨v,rfl,b',l,c',X,rfl,k⟩;exact ⟨b',l,c',X,rfl,k⟩)
 unfold Ql6
 have hM:=cb.mp
 refine Qa3 fun A1 w1 hA1 c1 r1=>Qhk r1 ((r_Darts (h.nob c1) hM.toND h1 hN).mono ?_)
 rintro r w2 ⟨_,rfl,c2,b2,c2',rfl,v2,o2,_⟩
 have s1:=c1.size
 have s2:=c2.size
 have l1:=r1.lt
 let DL:=(List.range (2*N)).filter fun d=>decide (d∈dl tl N)
 have hDm:∀{x},x∈DL↔x∈dl tl N:=fun {x}=>by
  show x∈(List.range (2*N)).filter _↔_
  rw [List.mem_filter,List.mem_range,decide_eq_true_iff]
  exact ⟨fun h=>h.2,fun h=>⟨hM.lt x h,h⟩⟩
 have hDl:DL.length≤2*N:=by
  have:=List.length_filter_le (fun d=>decide (d∈dl tl N)) (List.range (2*N))
  rwa [List.length_range] at this
 have hDs:DL.Pairwise (· < ·):=List.Pairwise.filter _ List.pairwise_lt_range
 have hex:∀d,∃L,d∈dl tl N→Orb tl N d L:=fun d=>by
  by_cases h:d∈dl tl N
  ·obtain ⟨R,hR⟩:=cb.orb h;exact ⟨_,fun _=>hR⟩
  ·exact ⟨[],fun k=>absurd k h⟩
 obtain ⟨W',hW'⟩:=Classical.axiomOfChoice hex
 have hW:∀{d},d∈dl tl N→Orb tl N d (W' d):=fun {d}=>hW' d
 let lst:Nat→Bool:=fun d=>decide (∀y∈W' d,d≤y)
 let OUT:Nat→List Nat:=fun i=>(DL.take i).filter lst
 let J:Nat→List Value→World→Prop:=fun jj vs w'=>∃(i:Nat) (b':Option Addr) (c':Nat) (V:Nat→Value),vs=[.slice b' (OUT i).length c',.int .i64 i]∧i≤DL.length∧Chg Qac w2 w'∧Own w' w2.heap.size Qaj 1 b' (OUT i).length c' (recs (fun k=>[V k]) (OUT i).length)∧
  (∀k d,(OUT i)[k]?=some d→LA w' (fun g=>g<w.heap.size∨bk b'=some g) (V k) (W' d))∧jj=DL.length-i
 refine ⟨_,_,_,rfl,LI J,LM J,⟨_,0,none,0,fun _=>.nilIface,rfl,by omega,Chg.refl _ _,Own.nil,fun k d hk=>by simp [OUT] at hk,rfl⟩,?_⟩
 intro _ sb sl sc ii w3 hJ
 obtain ⟨i,b',c',V,hvs,hi,ck,ow,hV,hj⟩:=hJ.at
 simp only [List.cons.injEq,Value.slice.injEq,Value.int.injEq,and_true,true_and] at hvs
 obtain ⟨⟨rfl,rfl,rfl⟩,rfl⟩:=hvs
 have s3:=ck.size
 have hOl:(OUT i).length≤2*N:=by
  have h1:=List.length_filter_le lst (DL.take i)
  have h2:=List.length_take_le i DL
  show ((DL.take i).filter lst).length≤_
  omega
 refine Qag (fun k1=>?_) (fun k1=>?_)<;>simp only [b1s] at k1
 ·have hiD:i<DL.length:=by
   have:(i:Int)<(DL.length:Nat):=k1
   omega
  obtain ⟨d,hd⟩:∃d,DL[i]?=some d:=⟨_,List.getElem?_eq_getElem hiD⟩
  have hdl:=hDm.1 (List.mem_of_getElem? hd)
  have hor:=hW hdl
  have c4:=ck.trans (Chg.refl Qac w3).drew
  have c34:Chg Qac w3 w3.drew:=(Chg.refl Qac w3).drew
  have s4:=c34.size
  refine Qhk (c4.row (fun h=>h) (c2.row (fun h=>h) r1)) (rdI (v2.nob c4) hd ((r_Walk (h.nob ((c1.trans c2).trans c4)) hM h1 hN hor).mono ?_))
  rintro r w5 ⟨_,rfl,c5,b5,c5',rfl,v5,o5,hc5⟩
  have c25:=c4.trans c5
  have s5:=c5.size
  have ow5:Own w5 w2.heap.size Qaj 1 sb (OUT i).length sc (recs (fun k=>[V k]) (OUT i).length):=ow.chg (c34.trans c5) fun _ _ _ h=>h
  have hV5:∀k d,(OUT i)[k]?=some d→LA w5 (fun g=>g<w.heap.size∨bk sb=some g) (V k) (W' d):=fun k d hk=>(hV k d hk).nob (c34.trans c5)
  refine ⟨_,_,_,rfl,rdI (v2.nob c25) hd ?_⟩
  have hlen:=hor.len hM.toND
  let J2:Nat→List Value→World→Prop:=fun jj vs w'=>∃(k:Nat) (mn:Nat),vs=[.int .i64 mn,.int .i64 k]∧k≤(W' d).length∧w'=w5∧(mn≤d∧(∀y∈(W' d).take k,mn≤y)∧(mn=d∨mn∈(W' d).take k))∧jj=(W' d).length-k
  refine ⟨LI J2,LM J2,⟨_,0,d,rfl,by omega,rfl,⟨Nat.le_refl _,by simp,.inl rfl⟩,rfl⟩,?_⟩
  intro _ mn k w6 hJ2
  obtain ⟨k,mn,hvs,hk,rfl,⟨m1,m2,m3⟩,hj2⟩:=hJ2.at
  simp only [List.cons.injEq,Value.int.injEq,and_true,true_and] at hvs
  obtain ⟨rfl,rfl⟩:=hvs
  refine Qag (fun k2=>?_) (fun k2=>?_)<;>simp only [b1s] at k2
  ·have hkL:k<(W' d).length:=by omega
   obtain ⟨y,hy⟩:∃y,(W' d)[k]?=some y:=⟨_,List.getElem?_eq_getElem hkL⟩
   refine rdI v5 hy ?_
   rw [wrap64_in (x:=(k:Int)+1) (by omega) (by omega)]
   have et:(W' d).take (k+1)=(W' d).take k++[y]:=by rw [List.take_add_one,hy];rfl
   have e:(if (y:Int)<(mn:Int) then (y:Int) else (mn:Int))=((min y mn:Nat):Int):=by split<;>omega
   rw [e]
   refine LI.again (k:=(W' d).length-(k+1)) ⟨k+1,min y mn,rfl,by omega,rfl,⟨by omega,fun z hz=>?_,?_⟩,rfl⟩ (by rw [hj2];omega)
   ·rw [et,List.mem_append,List.mem_singleton] at hz
    rcases hz with hz | rfl
    ·have:=m2 z hz;omega
    ·omega
   ·rw [et,List.mem_append,List.mem_singleton]
    rcases Nat.lt_or_ge y mn with h | h
    ·exact .inr (.inr (by omega))
    ·rw [show min y mn=mn by omega]
     exact m3.imp id .inl
  ·have hk:k=(W' d).length:=by omega
   subst hk
   rw [List.take_length] at m2 m3
   have hls:mn=d↔lst d=true:=by
    show _↔decide _=true
    rw [decide_eq_true_iff]
    constructor
    ·rintro rfl;exact m2
    ·intro h
     rcases m3 with h3 | h3
     ·exact h3
     ·have:=h mn h3;omega
   refine rdI (v2.nob c25) hd ?_
   have eO:OUT (i+1)=OUT i++if lst d=true then [d] else []:=by
    show (DL.take (i+1)).filter lst=(DL.take i).filter lst++_
    rw [List.take_add_one,hd,List.filter_append]
    congr 1
    by_cases h:lst d=true
    ·rw [if_pos h];simp [h]
    ·rw [if_neg h];simp [h]
   rw [wrap64_in (x:=(i:Int)+1) (by omega) (by omega)]
   refine Qag (fun k3=>Qa3 fun A2 w7 hA2 c7 r7=>?_) (fun k3=>?_)<;>simp only [b1s] at k3
   ·have hlt:lst d=true:=hls.1 (by omega)
    rw [if_pos hlt] at eO
    have ow7:=ow5.chg c7 fun _ _ _ h=>h
    have s7:=c7.size
    obtain ⟨b8,c8',w8,g8,o8,c8,hb8⟩:=Qdp (sc:=1) Qui ow7 (ty:=Qb7) (VA.Qmj (l:=1) (sz:=1) r7 rfl) (by simp [oneC]) (by omega) (by omega) (by omega) (by omega)
    refine ⟨_,_,_,_,g8,?_⟩
    have eL:(OUT i).length+1=(OUT (i+1)).length:=by rw [eO];simp
    let V':Nat→Value:=upd V (OUT i).length (.slice b5 (W' d).length c5')
    have eR:recs (fun k=>[V k]) (OUT i).length++[.slice b5 (W' d).length c5']=recs (fun k=>[V' k]) (OUT (i+1)).length:=by
     rw [←eL,Qj9]
     have:V' (OUT i).length=.slice b5 (W' d).length c5':=by show upd _ _ _ _=_;rw [Qab]
     rw [this,Qjy (f:=fun k=>[V k]) (g:=fun k=>[V' k]) fun k hk=>by show [V k]=[upd _ _ _ _];rw [Qai _ _ (by omega)]]
    rw [eR] at o8
    have cc8:Chg Qac w2 w8:=(c25.trans c7).trans' c8 fun g e=>.inr (ow7.Qfb e).1
    rw [eL] at o8 ⊢
    have okb:∀{X:Value} {Y:List Nat},LA w7 (fun g=>g<w.heap.size∨bk sb=some g) X Y→LA w8 (fun g=>g<w.heap.size∨bk b8=some g) X Y:=fun {X Y} hh=>by
     obtain ⟨bx,cx,rfl,x1,x2,x3⟩:=hh.keep c8 fun g e=>.inr e
     refine ⟨bx,cx,rfl,x1,fun g hg e hb=>?_,x3⟩
     rcases hb with hb | hb
     ·exact x2 g hg e (.inl hb)
     ·rcases hb8 with h9 | h9
      ·rw [h9] at hb;exact x2 g hg e (.inr hb)
      ·rw [h9] at hb
       obtain rfl:w7.heap.size=g:=Option.some.inj hb
       obtain ⟨bx',cx',hbx,x1',_,_⟩:=hh
       simp only [Value.slice.injEq] at hbx
       obtain ⟨rfl,_,rfl⟩:=hbx
       obtain ⟨g',e',hlt'⟩:=x1'.blk hg
       rw [e'] at e;cases e;omega
    refine LI.again (k:=DL.length-(i+1)) ⟨i+1,_,_,V',rfl,by omega,cc8,o8,fun k d' hk=>?_,rfl⟩ (by rw [hj];omega)
    rw [eO] at hk
    rcases Nat.lt_or_ge k (OUT i).length with hkl | hkl
    ·rw [List.getElem?_append_left hkl] at hk
     show LA w8 _ (upd _ _ _ _) _
     rw [Qai _ _ (by omega)]
     exact okb ((hV5 k d' hk).nob c7)
    ·rw [List.getElem?_append_right hkl] at hk
     have hk0:k-(OUT i).length=0:=by
      have:=(List.getElem?_eq_some_iff.1 hk).1
      simp at this;omega
     rw [hk0] at hk
     obtain rfl:d=d':=by simpa using hk
     obtain rfl:k=(OUT i).length:=by omega
     show LA w8 _ (upd _ _ _ _) _
     rw [Qab]
     refine okb (LA.nob ⟨b5,c5',rfl,v5,fun g hg e hb=>?_,hc5⟩ c7)
     rcases hb with hb | hb
     ·exact o5 g hg e (by omega)
     ·have:=(ow.Qfb hb).2
      exact o5 g hg e (by omega)
   ·have hlt:¬lst d=true:=fun h=>by have:=hls.2 h;omega
    rw [if_neg hlt,List.append_nil] at eO
    exact LI.again (k:=DL.length-(i+1)) ⟨i+1,sb,sc,V,by rw [eO];rfl,by omega,c25,by rw [eO];exact ow5,by rw [eO];exact hV5,rfl⟩ (by rw [hj];omega)
 ·have hiD:i=DL.length:=by
   have:¬((i:Int)<(DL.length:Nat)):=k1
   omega
  have cw:Chg Qac w w3:=(c1.trans c2).trans ck
  refine ⟨_,_,_,fun k=>W' ((OUT i).getD k 0),rfl,cw,⟨V,VA.Qi2 ow,fun g hg e hb=>by have:=(ow.Qfb e).1;omega,fun k hk=>?_⟩,hOl,?_⟩
  ·have hk':(OUT i)[k]?=some ((OUT i).getD k 0):=by rw [List.getD_eq_getElem?_getD,List.getElem?_eq_getElem hk];rfl
   exact (hV k _ hk').weak fun g=>.inl
  have hO:OUT i=DL.filter lst:=by show (DL.take i).filter lst=_;rw [hiD,List.take_length]
  have hOm:∀{x},x∈OUT i↔x∈dl tl N∧∀y∈W' x,x≤y:=fun {x}=>by
   rw [hO,List.mem_filter,hDm]
   show _∧decide _=true↔_
   rw [decide_eq_true_iff]
  have hat:∀{k},k<(OUT i).length→(OUT i).getD k 0∈OUT i:=fun {k} hk=>by
   rw [List.getD_eq_getElem?_getD,List.getElem?_eq_getElem hk]
   exact List.getElem_mem hk
  refine ⟨fun k hk=>⟨_,hW (hOm.1 (hat hk)).1⟩,fun x hx=>?_,fun k k' x hk hk' h1 h2=>?_⟩
  ·have ho:=hW hx
   have hxm:x∈W' x:=List.mem_of_head? ho.h
   obtain ⟨m,_,hm,hml⟩:=Qpm (Q:=fun y=>y∈W' x) hxm
   have hmd:=ho.m m hm
   have hom:=hW hmd
   have hmem:m∈OUT i:=hOm.2 ⟨hmd,fun y hy=>by
    have:y∈W' x:=(ho.Qs3 hm).2 (hom.pf.1 hy)
    exact Nat.le_of_not_lt fun k=>hml y k this⟩
   obtain ⟨k,hk⟩:=List.getElem?_of_mem hmem
   refine ⟨k,(List.getElem?_eq_some_iff.1 hk).1,?_⟩
   rw [List.getD_eq_getElem?_getD,hk]
   exact hom.pf.2 ((ho.Qs3 hm).1 hxm)
  ·have a1:=hOm.1 (hat hk)
   have a2:=hOm.1 (hat hk')
   have o1:=hW a1.1
   have o2:=hW a2.1
   have e:(OUT i).getD k 0=(OUT i).getD k' 0:=by
    have h3:(OUT i).getD k' 0∈W' ((OUT i).getD k 0):=(o1.Qs3 h1).2 ((o2.Qs3 h2).1 (List.mem_of_head? o2.h))
    have h4:(OUT i).getD k 0∈W' ((OUT i).getD k' 0):=(o2.Qs3 h2).2 ((o1.Qs3 h1).1 (List.mem_of_head? o1.h))
    have:=a1.2 _ h3
    have:=a2.2 _ h4
    omega
   have nd:(OUT i).Nodup:=by rw [hO];exact (hDs.imp fun h=>by omega).filter _
   refine (List.getElem?_inj hk nd (j:=k')).1 ?_
   rw [List.getElem?_eq_getElem hk,List.getElem?_eq_getElem hk']
   rw [List.getD_eq_getElem?_getD,List.getD_eq_getElem?_getD,List.getElem?_eq_getElem hk,List.getElem?_eq_getElem hk'] at e
   exact congrArg some e
def eL (tl:Nat→List Nat) (N:Nat):List Nat:=(List.range N).filter fun e=>decide (2*e∈dl tl N)
theorem Qww:e∈eL tl N↔e<N∧Laid tl N e:=by unfold eL Laid;rw [List.mem_filter,List.mem_range,decide_eq_true_iff]
def eEnc (tl:Nat→List Nat) (N:Nat) (W:Nat→Int) (e:Nat):List Value:=[.int .i64 (og tl N (2*e):Nat),.int .i64 (og tl N (2*e+1):Nat),.int .i32 (W e)]
theorem Qv1 (x:Nat):(eEnc tl N W x).length=3:=rfl
theorem ET_edge:ET Pg Qdf Qgl 3 24:=ET.of (by kernel_rfl) (by kernel_rfl)
theorem Qu3 {f:Nat→List Value} {s:Nat} (hf:∀x,(f x).length=s):∀{A:List Nat} {i e j:Nat},A[i]?=some e→j<s→(A.flatMap f)[i*s+j]?=(f e)[j]?
 | [],i,e,j,h,_=>by simp at h
 | a::A,0,e,j,h,hj=>by
  obtain rfl:a=e:=by simpa using h
  rw [List.flatMap_cons,Nat.zero_mul,Nat.zero_add,List.getElem?_append_left (by rw [hf];exact hj)]
 | a::A,i+1,e,j,h,hj=>by
  rw [List.flatMap_cons,List.getElem?_append_right (by rw [hf,Nat.succ_mul];omega),hf,show (i+1)*s+j-s=i*s+j by rw [Nat.succ_mul];omega]
  exact Qu3 hf (by simpa using h) hj
def EV (w:World) (tl:Nat→List Nat) (N:Nat) (W:Nat→Int) (b:Option Addr):Prop:=VA w b (eL tl N).length 3 ((eL tl N).flatMap (eEnc tl N W))
theorem EV.nob (h:EV w tl N W b) (c:Chg Qac w w'):EV w' tl N W b:=VA.nob h c
theorem EV.ra (h:EV w tl N W b) (hi:(eL tl N)[i]?=some e) {K:Int→Prop} (k:K (og tl N (2*e):Nat)):ixS b (eL tl N).length (i:Int) 3 fun a=>ldI .i64 a w K:=by
 refine VA.ix h (List.getElem?_eq_some_iff.1 hi).1 fun g o t cs r _ hc=>Qak (n:=(og tl N (2*e):Nat)) r ?_ k
 have:=hc 0 (by omega)
 rw [Qu3 Qv1 hi (by omega)] at this
 rw [Nat.add_zero] at this;exact this
theorem EV.rb (h:EV w tl N W b) (hi:(eL tl N)[i]?=some e) {K:Int→Prop} (k:K (og tl N (2*e+1):Nat)):ixS b (eL tl N).length (i:Int) 3 fun a=>ldI .i64 (a.add 1) w K:=by
 refine VA.ix h (List.getElem?_eq_some_iff.1 hi).1 fun g o t cs r _ hc=>?_
 rw [Qaf]
 refine Qak (n:=(og tl N (2*e+1):Nat)) r ?_ k
 have:=hc 1 (by omega)
 rw [Qu3 Qv1 hi (by omega)] at this
 exact this
theorem EV.rw (h:EV w tl N W b) (hi:(eL tl N)[i]?=some e) {K:Int→Prop} (k:K (W e)):ixS b (eL tl N).length (i:Int) 3 fun a=>ldI .i32 (a.add 2) w K:=by
 refine VA.ix h (List.getElem?_eq_some_iff.1 hi).1 fun g o t cs r _ hc=>?_
 rw [Qaf]
 refine Qak (n:=W e) r ?_ k
 have:=hc 2 (by omega)
 rw [Qu3 Qv1 hi (by omega)] at this
 exact this
theorem r_Edges (h:XR w bad N lv tl W lb tb wb) (hM:MP N tl) (hN:N≤1048576):Calls Pg Qg9 #[mV N lb lc tb tc wb wc'] w fun r w'=>∃eb ec V,r=.returned (.tuple #[.slice eb (eL tl N).length ec,V])∧Chg Qac w w'∧EV w' tl N W eb∧Okb (fun k=>k<w.heap.size) (eL tl N).length eb∧LA w' (fun k=>k<w.heap.size) V (eL tl N):=by
 refine (Qnr _ _ _ _ _ _ _ _ _ _ _ _ (fun v' w'=>∃eb ec V,v'=.tuple #[.slice eb (eL tl N).length ec,V]∧Chg Qac w w'∧EV w' tl N W eb∧Okb (fun k=>k<w.heap.size) (eL tl N).length eb∧LA w' (fun k=>k<w.heap.size) V (eL tl N)) ?_).mono (by rintro e w' ⟨v,rfl,eb,ec,V,rfl,k⟩;exact ⟨eb,ec,V,rfl,k⟩)
 unfold Qj3
 have nd:=hM.toND
 have hodd:∀i,2*i∈dl tl N→2*i+1∈dl tl N:=fun i hi=>hM.odd hi
 refine Qa3 fun A1 w1 hA1 c1 r1=>?_
 have s1:=c1.size
 have l1:=r1.lt
 let F:Nat→List Nat:=fun i=>(List.range i).filter fun e=>decide (2*e∈dl tl N)
 have Fl:∀i,(F i).length≤i:=fun i=>by
  have:=List.length_filter_le (fun e=>decide (2*e∈dl tl N)) (List.range i)
  rwa [List.length_range] at this
 have F1:∀i,F (i+1)=F i++if 2*i∈dl tl N then [i] else []:=fun i=>by
  show (List.range (i+1)).filter _=(List.range i).filter _++_
  rw [List.range_succ,List.filter_append]
  congr 1
  by_cases hh:2*i∈dl tl N
  ·rw [if_pos hh,List.filter_cons];simp [hh]
  ·rw [if_neg hh,List.filter_cons];simp [hh]
 let J:Nat→List Value→World→Prop:=fun jj vs w'=>∃(i:Nat) (eb:Option Addr) (ec:Nat) (ab:Option Addr) (ac:Nat),vs=[.slice eb (F i).length ec,.slice ab (F i).length ac,.int .i64 i]∧i≤N∧Chg Qac w1 w'∧
  Own w' w1.heap.size Qgl 3 eb (F i).length ec ((F i).flatMap (eEnc tl N W))∧Own w' w1.heap.size Qbe 1 ab (F i).length ac (ivs (F i))∧(∀g,bk eb=some g→bk ab≠some g)∧jj=N-i
 refine ⟨LI J,LM J,⟨_,0,none,0,none,0,rfl,by omega,Chg.refl _ _,Own.nil,Own.nil,fun g e=>(by cases e),rfl⟩,?_⟩
 intro _ eb el ec ab al ac ii w3 hJ
 obtain ⟨i,eb',ec',ab',ac',hvs,hi,ck,oe,oa,hne,hj⟩:=hJ.at
 simp only [List.cons.injEq,Value.slice.injEq,Value.int.injEq,and_true,true_and] at hvs
 obtain ⟨⟨rfl,rfl,rfl⟩,⟨rfl,rfl,rfl⟩,rfl⟩:=hvs
 have s3:=ck.size
 have r3:=ck.row (fun h=>h) r1
 have hFi:=Fl i
 refine Qak (n:=(N:Int)) r3 rfl (Qag (fun k1=>?_) (fun k1=>?_))<;>simp only [b1s] at k1
 ·have hiN:i<N:=by omega
  obtain ⟨e1,e2⟩:=wrap2 hiN hN
  rw [e2,e1]
  refine Qrp r3 ((Qqg ((h.t.nob c1).nob ck) nd hN).mono ?_)
  rintro r w4 ⟨z,zi,rfl,c4,fd⟩
  refine ⟨_,_,rfl,Qrp (c4.row (fun h=>h) r3) ((Qqg (((h.t.nob c1).nob ck).nob c4) nd hN).mono ?_)⟩
  rintro r w5 ⟨y,yi,rfl,c5,fd2⟩
  have c35:=c4.trans c5
  have cw:=ck.trans c35
  have s4:=c35.size
  rw [wrap64_in (x:=(i:Int)+1) (by omega) (by omega)]
  refine ⟨_,_,rfl,Qag (fun k2=>?_) (fun k2=>?_)⟩<;>simp only [b1s] at k2
  ·have hl:2*i∈dl tl N:=Classical.byContradiction fun hl=>by
    have := fd.off fun d hd e => hl (by have : d = 2 * i := by omega
                                        subst this;exact hd)
    omega
   obtain ⟨_,rfl,_,_⟩:=fd.on nd hl
   have fo:=F1 i
   rw [if_pos hl] at fo
   have hw:=(h.w.nob (c1.trans cw))
   rw [Qaf]
   refine Qa8 (c35.row (fun h=>h) r3) rfl (hw.ix hiN fun g o ty cs rg _ hcs=>Qak (n:=W i) rg ?_ ?_)
   ·have:=hcs 0 (by omega)
    rw [Nat.add_zero] at this
    rw [this]
    have:=Qix (k:=0) (wc W) wc_len hiN (by omega)
    rw [this];rfl
   refine Qa3 fun A2 w6 hA2 c6 r6=>?_
   have s6:=c6.size
   have l6:=r6.lt
   have oe6:=oe.chg (c35.trans c6) fun _ _ _ h=>h
   have oa6:=oa.chg (c35.trans c6) fun _ _ _ h=>h
   obtain ⟨b7,c7',w7,g7,o7,c7,hb7⟩:=Qdp (sc:=1) ET_edge oe6 (ty:=Qdf) (VA.Qmj (l:=1) (sz:=3) r6 rfl) (by simp [oneC]) (by omega) (by omega) (by omega) (by omega)
   refine ⟨_,_,_,_,g7,Qa3 fun A3 w8 hA3 c8 r8=>?_⟩
   have s7:=c7.size
   have s8:=c8.size
   have oa7:=oa6.keep c7 fun k j hh=>hne k hh j
   have oa8:=oa7.chg c8 fun _ _ _ h=>h
   obtain ⟨b9,c9',w9,g9,o9,c9,hb9⟩:=Qdp (sc:=1) Qje oa8 (ty:=Qaj) (VA.Qmj (l:=1) (sz:=1) r8 rfl) (by simp [oneC]) (by omega) (by omega) (by omega) (by omega)
   refine ⟨_,_,_,_,g9,?_⟩
   obtain ⟨_,rfl,_,_⟩:=fd2.on nd (Classical.byContradiction fun hh=>hh (hodd i hl))
   have o79:Own w9 w1.heap.size Qgl 3 b7 ((F i).length+1) c7' ((F i).flatMap (eEnc tl N W)++[.int .i64 (og tl N (2*i):Nat),.int .i64 (og tl N (2*i+1):Nat),.int .i32 (W i)]):=(o7.chg c8 fun _ _ _ h=>h).keep c9 fun k j hh=>by
    rcases hb7 with hb | hb
    ·rw [hb] at j;exact hne k j hh
    ·rw [hb] at j
     have:=(oa.Qfb hh).2
     obtain rfl:w6.heap.size=k:=Option.some.inj j
     omega
   refine LI.again (k:=N-(i+1)) ⟨i+1,b7,c7',b9,c9',by rw [fo];simp,by omega,((((cw.trans c6).trans' c7 fun k e=>.inr (oe6.Qfb e).1).trans c8).trans' c9 fun k e=>.inr (oa8.Qfb e).1),?_,?_,fun g e1 e2=>?_,rfl⟩ (by rw [hj];omega)
   ·rw [fo,List.length_append,List.flatMap_append]
    simpa [eEnc] using o79
   ·rw [fo,List.length_append]
    have:ivs (F i++[i])=ivs (F i)++[.int .i64 (i:Int)]:=by simp [ivs]
    rw [this]
    simpa using o9
   ·have h7:=(o7.Qfb e1).2
    rcases hb9 with h9 | h9
    ·rw [h9] at e2
     rcases hb7 with h8 | h8
     ·rw [h8] at e1;exact hne g e1 e2
     ·rw [h8] at e1
      have:=(oa.Qfb e2).2
      obtain rfl:w6.heap.size=g:=Option.some.inj e1
      omega
    ·rw [h9] at e2
     obtain rfl:w8.heap.size=g:=Option.some.inj e2
     omega
  ·have hl:¬2*i∈dl tl N:=fun hl=>by
    obtain ⟨_,rfl,_,_⟩:=fd.on nd hl
    omega
   have fo:=F1 i
   rw [if_neg hl,List.append_nil] at fo
   exact LI.again (k:=N-(i+1)) ⟨i+1,eb,ec,ab,ac,by rw [fo];rfl,by omega,cw,by rw [fo];exact oe.chg c35 fun _ _ _ h=>h,by rw [fo];exact oa.chg c35 fun _ _ _ h=>h,hne,rfl⟩ (by rw [hj];omega)
 ·have:i=N:=by omega
  subst this
  exact ⟨eb,ec,_,rfl,c1.trans ck,VA.Qi2 oe,fun g _ e hb=>by have:=(oe.Qfb e).1;omega,ab,ac,rfl,VA.Qi2 oa,fun g _ e hb=>by have:=(oa.Qfb e).1;omega,oa.cap.1⟩
theorem r_Less (h:EV w tl N W b) (hi:(eL tl N)[i]?=some e) (hj:(eL tl N)[j]?=some d):Calls Pg Qft #[.slice b (eL tl N).length c,.int .i64 (i:Nat),.int .i64 (j:Nat)] w fun r w'=>r=.returned (.bool (decide (W e<W d∨(W e=W d∧i<j))))∧Chg Qac w w':=by
 refine (Qow _ _ _ _ _ _ (fun v' w'=>v'=.bool (decide (W e<W d∨(W e=W d∧i<j)))∧Chg Qac w w') ?_).mono (by rintro e w' ⟨v,rfl,rfl,k⟩;exact ⟨rfl,k⟩)
 unfold Qk7
 have c1:=(Chg.refl Qac w).drew
 have h1:=h.nob c1
 refine h1.rw hi (h1.rw hj (Qag (fun k=>?_) fun k=>h1.rw hi (h1.rw hj (Qag (fun k2=>?_) fun k2=>?_))))<;>simp only [b1s] at *
 ·rw [decide_eq_true (.inl k)];exact ⟨rfl,c1⟩
 ·refine ⟨?_,c1⟩
  congr 1
  refine decide_eq_decide.2 ?_
  have:W e=W d:=by simpa using k2
  omega
 ·rw [decide_eq_false (fun hh=>by
   rcases hh with hh | hh
   ·omega
   ·exact k2 hh.1)]
  exact ⟨rfl,c1⟩
end
end Core
end Go.Proofs.YtpmicakdjhoafaaGreatDoor
