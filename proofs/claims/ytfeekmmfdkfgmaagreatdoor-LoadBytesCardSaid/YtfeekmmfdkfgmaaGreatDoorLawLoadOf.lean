/-
The law LoadOf: the state of any model, or the error: its model is the model again.
Conditions: the package variable of errors is laid out.
-/
import Derived.Test.YtfeekmmfdkfgmaaGreatDoorHsh
import Derived.Test.YtfeekmmfdkfgmaaGreatDoorHload
set_option linter.unusedVariables false
set_option linter.unusedSimpArgs false
namespace Go.Proofs.YtfeekmmfdkfgmaaGreatDoor
open Go Go.RowKit
set_option linter.unnecessarySimpa false
namespace Core
set_option linter.ambiguousOpen false
open Seq Cut Web
structure Mdl.Eqv (M M':Mdl):Prop where
 n:M'.N=M.N
 x:M'.X=M.X
 y:M'.Y=M.Y
 m:M'.m=M.m
 d:∀d,d<2*M.m→M'.fr d=M.fr d∧M'.nx d=M.nx d
 w:∀e,e<M.m→M'.W e=M.W e
section
variable {M M':Mdl}
theorem Mdl.Eqv.ok (h:M.Eqv M') (ok:M.ok):M'.ok:=by
 obtain ⟨o1,o2,o3,o4,o5⟩:=ok
 refine ⟨by rw [h.n,h.x];exact o1,by rw [h.n,h.y];exact o2,by rw [h.m,h.y];exact o3,fun e he hl=>?_,fun d hd=>?_⟩
 ·rw [h.m] at he
  rw [h.y] at hl
  obtain ⟨d1,d2⟩:=h.d (2*e) (by omega)
  obtain ⟨d3,d4⟩:=h.d (2*e+1) (by omega)
  rw [d1,d2,d3,d4,h.w e he]
  exact o4 e he hl
 ·unfold Mdl.LD at hd ⊢
  rw [h.y] at hd ⊢
  have hl:=Qit hd
  have k:=o5 d hd
  have hl2:=Qit k.2.1
  obtain ⟨d1,d2⟩:=h.d d (by omega)
  obtain ⟨d3,d4⟩:=h.d (M.nx d) (by omega)
  rw [h.x,d1,d2,d3]
  exact k
theorem Mdl.Eqv.good (h:M.Eqv M') (g:M.good):M'.good:=by
 obtain ⟨ok,tl,hr,hf⟩:=g
 have eY:=ok.2.2.1
 have lt:∀{d},M.LD d→d<2*M.m:=fun {d} hd=>by have:=Qit hd;omega
 have eL:∀d,M'.LD d↔M.LD d:=fun d=>by unfold Mdl.LD;rw [h.y]
 refine ⟨h.ok ok,tl,⟨hr.nd,fun v d=>?_,fun v d hd=>?_⟩,by rw [h.n];exact hf⟩
 ·rw [hr.mem,eL]
  constructor
  ·rintro ⟨k1,k2⟩;exact ⟨k1,by rw [(h.d d (lt k1)).1];exact k2⟩
  ·rintro ⟨k1,k2⟩;exact ⟨k1,by rw [←(h.d d (lt k1)).1];exact k2⟩
 ·rw [hr.nx v d hd,(h.d d (lt ((hr.mem v d).1 hd).1)).2]
end
section
variable {w w':World} {M:Mdl} {X:List (Int × Int)}
theorem Qz4 {b b':Option Addr} {c c':Nat} (va:VA w b X.length 2 (X.flatMap pz)) (cv:CV w b' X.length 2 (X.flatMap pz)) (hl:X.length≤1000000000):Calls Pg 54 #[.slice b X.length c,.slice b' X.length c'] w fun r w'=>r=.returned (.bool true)∧Chg Qaa w w':=by
 refine (Qme _ _ _ _ _ _ _ (fun v' w'=>v'=.bool true∧Chg Qaa w w') ?_).mono rti
 unfold Qg9 nr
 refine Qac (fun k=>by simp at k) (fun _=>?_)
 let J:Nat→List Value→World→Prop:=fun j us w'=>∃i:Nat,us=[.int .i64 i]∧i≤X.length∧Chg Qaa w w'∧j=X.length-i
 refine ⟨LI J,LM J,⟨_,0,rfl,Nat.zero_le _,Chg.refl _ _,rfl⟩,?_⟩
 intro _ i w5 hJ
 obtain ⟨i,hus,hi,ck,hj⟩:=hJ.at
 simp only [vj] at hus
 subst hus
 refine Qac (fun hlt=>?_) (fun hlt=>⟨rfl,ck⟩)<;>simp only [b1s] at hlt
 obtain ⟨p,hp⟩:∃p,X[i]?=some p:=⟨_,List.getElem?_eq_getElem (by omega)⟩
 have ckd:=ck.drew
 rw [wrap64_in (x:=(i:Int)+1) (by omega) (by omega),show ((i:Int)+1)=((i+1:Nat):Int) by omega]
 refine ldz0 (w:=w5.drew) (va.nob ckd) hp (cvz0 (w:=w5.drew) (cv.nob ckd) hp (Qac (fun k=>by simp at k) (fun _=>ldz1 (w:=w5.drew) (va.nob ckd) hp (cvz1 (w:=w5.drew) (cv.nob ckd) hp (Qac (fun k=>by simp at k) (fun _=>?_))))))
 exact LI.again (k:=X.length-(i+1)) ⟨i+1,rfl,by omega,ckd,rfl⟩ (by rw [hj];omega)
theorem Q15 {M':Mdl} (mv:MV w M') (h:MV0 w M) (hq:M.Eqv M') (hX:M.X.length≤1000000) (hY:M.Y.length≤1000000) (hm:M.m≤1000000):Calls Pg 15 #[M'.val,M.val] w fun r w'=>r=.returned (.bool true)∧Chg Qaa w w':=by
 obtain ⟨N,X,Y,m,fr,nx,W,vb,vc,eb,ec,lb,lc⟩:=M'
 obtain ⟨q1,q2,q3,q4,q5,q6⟩:=hq
 dsimp only at q1 q2 q3 q4 q5 q6
 subst q1 q2 q3 q4
 refine (Qmr _ _ _ _ _ _ _ _ _ _ _ _ _ _ _ _ _ _ _ _ _ (fun v' w'=>v'=.bool true∧Chg Qaa w w') ?_).mono rti
 unfold Qhq nr
 refine Qak fun A w9 hA c9 r9=>Qak fun B w11 hB c11 r11=>?_
 have c011:=c9.trans c11
 have r9':=c11.row (fun h=>h) r9
 simp only [Qad]
 refine ⟨fun us w'=>us=[]∧Chg Qaa w11 w',?_,?_⟩
 ·refine Qaf (n:=M.N) r9' rfl (Qaf (n:=M.N) r11 rfl (Qac (fun k=>by simp at k) (fun _=>Qai r9' rfl (Qai r11 rfl ((Qz4 (mv.nob c011).v (h.nob c011).v (by show M.X.length≤_;omega)).mono ?_)))))
  rintro r w18 ⟨rfl,c18⟩
  refine ⟨_,rfl,Qac (fun k=>by cases k) (fun _=>Qai (c18.row (fun h=>h) r9') rfl (Qai (c18.row (fun h=>h) r11) rfl ((Qz4 (mv.nob (c011.trans c18)).e (h.nob (c011.trans c18)).e (by show M.Y.length≤_;omega)).mono ?_)))⟩
  rintro r w23 ⟨rfl,c23⟩
  have c1123:=c18.trans c23
  exact ⟨_,rfl,Qac (fun k=>by cases k) (fun _=>Qai (c1123.row (fun h=>h) r9') rfl (Qai (c1123.row (fun h=>h) r11) rfl (Qac (fun k=>by simp at k) (fun _=>⟨rfl,c1123⟩))))⟩
 rintro _ w27 ⟨_,c27⟩
 let J:Nat→List Value→World→Prop:=fun j us w'=>∃i:Nat,us=[.int .i64 i]∧i≤M.m∧Chg Qaa w11 w'∧j=M.m-i
 refine ⟨LI J,LM J,⟨_,0,rfl,Nat.zero_le _,c27,rfl⟩,?_⟩
 intro _ i w31 hJ
 obtain ⟨i,hus,hi,ck,hj⟩:=hJ.at
 simp only [vj] at hus
 subst hus
 refine Qai (ck.row (fun h=>h) r9') rfl (Qac (fun hlt=>?_) (fun hlt=>?_))<;>simp only [b1s] at hlt
 rotate_left
 ·exact ⟨by trivial,c011.trans ck⟩
 have him:i<M.m:=by omega
 have ckd:=ck.drew
 have c0d:=c011.trans ckd
 rw [wrap64_in (x:=(i:Int)+1) (by omega) (by omega),show ((i:Int)+1)=((i+1:Nat):Int) by omega]
 have k0:=q5 (2*i) (by omega)
 have k1:=q5 (2*i+1) (by omega)
 have k2:=q6 i him
 refine Qai (w:=w31.drew) (ckd.row (fun h=>h) r9') rfl (ldE (w:=w31.drew) (mv.nob c0d).l him (Qai (w:=w31.drew) (ckd.row (fun h=>h) r11) rfl (ldE17 (w:=w31.drew) (h.nob c0d).l him ⟨_,_,Qvq,Qac (fun k=>?_) (fun _=>?_)⟩)))
 ·dsimp only at k
  rw [k0.1,k0.2,k1.1,k1.2,k2] at k
  simp at k
 ·exact LI.again (k:=M.m-(i+1)) ⟨i+1,rfl,by omega,ckd,rfl⟩ (by rw [hj];omega)
theorem LO.lt {s S A1 A2:Nat} {tl:Nat→List Nat} {b:Bk} {q:List (List Nat)} {B D:Nat→Option (Nat × Nat)} {ky:Nat→Int} (h:LO w s M S tl A1 A2 b q B D ky):LT w S A1 A2 b M.N.toNat (fun v=>decide (v∈liv (toP M.X))) (toP M.X) (toP M.Y) tl q B D ky:=by
 obtain ⟨s1,s2,s3,S1,L1,W1,b1,c1,S2,L2,W2,b2,c2,a1,a2,_⟩:=h.a
 obtain ⟨hM,hdl,_⟩:=Mdl.map h.ok h.rot
 refine ⟨h.r,⟨_,_,_,_,_,a1⟩,⟨_,_,_,_,_,a2⟩,h.g,fun v _=>by rw [decide_eq_true_iff],fun e=>?_⟩
 rw [Q1h]
 unfold Laid
 rw [hdl]
 unfold Mdl.LD
 rw [show 2*e/2=e by omega]
theorem Zbm {X:List (Int × Int)} (h:∀p∈X,0≤p.1∧0≤p.2):itP (toP X)=X:=by
 unfold itP toP
 rw [List.map_map]
 refine (List.map_congr_left fun p hp=>?_).trans (List.map_id _)
 have:=h p hp
 exact Prod.ext (by show ((p.1.toNat:Nat):Int)=p.1;omega) (by show ((p.2.toNat:Nat):Int)=p.2;omega)
theorem LO.eqv {s S A1 A2:Nat} {tl:Nat→List Nat} {b:Bk} {q:List (List Nat)} {B D:Nat→Option (Nat × Nat)} {ky:Nat→Int} (h:LO w s M S tl A1 A2 b q B D ky) (hx:∀p∈M.X,0≤p.1) (hy:∀p∈M.Y,0≤p.1) {vb eb lb:Option Addr} {vc ec lc:Nat}:M.Eqv (stM M.N.toNat (toP M.X) (toP M.Y) tl ky vb vc eb ec lb lc):=by
 obtain ⟨⟨a1,a2,a3,_⟩,⟨b1,b2,b3,_⟩,e,hz,_⟩:=h.ok
 obtain ⟨hM,hdl,hos,_⟩:=Mdl.map h.ok h.rot
 have pos:∀{X:List (Int × Int)},X.any oddP=false→(∀p∈X,0≤p.1)→∀p∈X,0≤p.1∧0≤p.2:=fun {X} ha hx p hp=>by
  obtain ⟨i,hi⟩:=List.getElem?_of_mem hp
  exact ⟨hx p hp,(is_lt (Qmf ha hi)).2⟩
 refine ⟨by show ((M.N.toNat:Nat):Int)=M.N;omega,Zbm (pos a3 hx),Zbm (pos b3 hy),by show (toP M.Y).length=M.m;rw [Qf1,e],fun d hd=>?_,fun e' he=>?_⟩
 ·show (if d∈dl tl M.N.toNat then og tl M.N.toNat d else 0)=_∧(if d∈dl tl M.N.toNat then sg tl M.N.toNat d else 0)=_
  by_cases k:d∈dl tl M.N.toNat
  ·rw [if_pos k,if_pos k]
   have:=hos d ((hdl d).1 k)
   exact this
  ·rw [if_neg k,if_neg k]
   have hl:lv M.Y (d/2)=false:=by
    cases hh:lv M.Y (d/2) with
    | false=>rfl
    | true=>exact absurd ((hdl d).2 hh) k
   obtain ⟨z0,z1,z2,z3,_⟩:=hz (d/2) (by omega) hl
   rcases Nat.mod_two_eq_zero_or_one d with z | z
   ·rw [show 2*(d/2)=d by omega] at z0 z2;rw [z0,z2];exact ⟨rfl,rfl⟩
   ·rw [show 2*(d/2)+1=d by omega] at z1 z3;rw [z1,z3];exact ⟨rfl,rfl⟩
 ·show (if Laid tl M.N.toNat e' then ky e' / 1048576 else 0)=_
  by_cases k:Laid tl M.N.toNat e'
  ·rw [if_pos k,h.k e' k]
   have:=hM.Qbj k
   omega
  ·rw [if_neg k]
   have hl:lv M.Y e'=false:=by
    cases hh:lv M.Y e' with
    | false=>rfl
    | true=>exact absurd ((hdl (2*e')).2 (by unfold Mdl.LD;rw [show 2*e' / 2=e' by omega];exact hh)) k
   exact (hz e' he hl).2.2.2.2.symm
end
end Core
end Go.Proofs.YtfeekmmfdkfgmaaGreatDoor
