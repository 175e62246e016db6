/-
The law LoadOf: the state of any model, or the error: its model is the model again.
Conditions: the package variable of errors is laid out.
-/
import Derived.Test.YtfeekmmfdkfgmaaGreatDoorHsh
import Derived.Test.YtfeekmmfdkfgmaaGreatDoorHload
set_option linter.unusedVariables false
set_option linter.unusedSimpArgs false
namespace Go.Proofs.YtfeekmmfdkfgmaaGreatDoor
open Go Go.RowKit
set_option linter.unnecessarySimpa false
namespace Core
set_option linter.ambiguousOpen false
open Seq Cut Web
structure Mdl.Eqv (M M':Mdl):Prop where
 n:M'.N=M.N
 x:M'.X=M.X
 y:M'.Y=M.Y
 m:M'.m=M.m
 d:∀d,d<2*M.m→M'.fr d=M.fr d∧M'.nx d=M.nx d
 w:∀e,e<M.m→M'.W e=M.W e
section
variable {M M':Mdl}
theorem Mdl.Eqv.ok (h:M.Eqv M') (ok:M.ok):M'.ok:=by
 obtain ⟨o1,o2,o3,o4,o5⟩:=ok
 refine ⟨by rw [h.n,h.x];exact o1,by rw [h.n,h.y];exact o2,by rw [h.m,h.y];exact o3,fun e he hl=>?_,fun d hd=>?_⟩
 ·rw [h.m] at he
  rw [h.y] at hl
  obtain ⟨d1,d2⟩:=h.d (2*e) (by omega)
  obtain ⟨d3,d4⟩:=h.d (2*e+1) (by omega)
  rw [d1,d2,d3,d4,h.w e he]
  exact o4 e he hl
 ·unfold Mdl.LD at hd ⊢
  rw [h.y] at hd ⊢
  have hl:=Qh7 hd
  have k:=o5 d hd
  have hl2:=Qh7 k.2.1
  obtain ⟨d1,d2⟩:=h.d d (by omega)
  obtain ⟨d3,d4⟩:=h.d (M.nx d) (by omega)
  rw [h.x,d1,d2,d3]
  exact k
theorem Mdl.Eqv.good (h:M.Eqv M') (g:M.good):M'.good:=by
 obtain ⟨ok,tl,hr,hf⟩:=g
 have eY:=ok.2.2.1
 have lt:∀{d},M.LD d→d<2*M.m:=fun {d} hd=>by have:=Qh7 hd;omega
 have eL:∀d,M'.LD d↔M.LD d:=fun d=>by unfold Mdl.LD;rw [h.y]
 refine ⟨h.ok ok,tl,⟨hr.nd,fun v d=>?_,fun v d hd=>?_⟩,by rw [h.n];exact hf⟩
 ·rw [hr.mem,eL]
  constructor
  ·rintro ⟨k1,k2⟩;exact ⟨k1,by rw [(h.d d (lt k1)).1];exact k2⟩
  ·rintro ⟨k1,k2⟩;exact ⟨k1,by rw [←(h.d d (lt k1)).1];exact k2⟩
 ·rw [hr.nx v d hd,(h.d d (lt ((hr.mem v d).1 hd).1)).2]
theorem Mdl.Eqv.rm (h:M.Eqv M') (eY:M.m=M.Y.length):M'.rm=M.rm:=by
 unfold Mdl.rm
 rw [h.n,h.x,h.y]
 congr 1
 refine List.map_congr_left fun e he=>?_
 rw [List.mem_range] at he
 unfold Mdl.er
 obtain ⟨d1,d2⟩:=h.d (2*e) (by omega)
 obtain ⟨d3,d4⟩:=h.d (2*e+1) (by omega)
 rw [h.y,d1,d2,d3,d4,h.w e (by omega)]
end
section
variable {w w':World} {M:Mdl} {X:List (Int × Int)}
theorem Qyt {b b':Option Addr} {c c':Nat} (va:VA w b X.length 2 (X.flatMap pz)) (cv:CV w b' X.length 2 (X.flatMap pz)) (hl:X.length≤1000000000):Calls Pg Qgw #[.slice b X.length c,.slice b' X.length c'] w fun r w'=>r=.returned (.bool true)∧Chg Qaa w w':=by
 refine (Qlj _ _ _ _ _ _ _ (fun v' w'=>v'=.bool true∧Chg Qaa w w') ?_).mono rti
 unfold Qgt nr
 refine Qac (fun k=>by simp at k) (fun _=>?_)
 let J:Nat→List Value→World→Prop:=fun j us w'=>∃i:Nat,us=[.int .i64 i]∧i≤X.length∧Chg Qaa w w'∧j=X.length-i
 refine ⟨LI J,LM J,⟨_,0,rfl,Nat.zero_le _,Chg.refl _ _,rfl⟩,?_⟩
 intro _ i w5 hJ
 obtain ⟨i,hus,hi,ck,hj⟩:=hJ.at
 simp only [vj] at hus
 subst hus
 refine Qac (fun hlt=>?_) (fun hlt=>⟨rfl,ck⟩)<;>simp only [b1s] at hlt
 obtain ⟨p,hp⟩:∃p,X[i]?=some p:=⟨_,List.getElem?_eq_getElem (by omega)⟩
 have ckd:=ck.drew
 rw [wrap64_in (x:=(i:Int)+1) (by omega) (by omega),show ((i:Int)+1)=((i+1:Nat):Int) by omega]
 refine ldz0 (w:=w5.drew) (va.nob ckd) hp (cvz0 (w:=w5.drew) (cv.nob ckd) hp (Qac (fun k=>by simp at k) (fun _=>ldz1 (w:=w5.drew) (va.nob ckd) hp (cvz1 (w:=w5.drew) (cv.nob ckd) hp (Qac (fun k=>by simp at k) (fun _=>?_))))))
 exact LI.again (k:=X.length-(i+1)) ⟨i+1,rfl,by omega,ckd,rfl⟩ (by rw [hj];omega)
theorem Q43 {M':Mdl} (mv:MV w M') (h:MV0 w M) (hq:M.Eqv M') (hX:M.X.length≤1000000) (hY:M.Y.length≤1000000) (hm:M.m≤1000000):Calls Pg Qhu #[M'.val,M.val] w fun r w'=>r=.returned (.bool true)∧Chg Qaa w w':=by
 obtain ⟨N,X,Y,m,fr,nx,W,vb,vc,eb,ec,lb,lc⟩:=M'
 obtain ⟨q1,q2,q3,q4,q5,q6⟩:=hq
 dsimp only at q1 q2 q3 q4 q5 q6
 subst q1 q2 q3 q4
 refine (Qly _ _ _ _ _ _ _ _ _ _ _ _ _ _ _ _ _ _ _ _ _ (fun v' w'=>v'=.bool true∧Chg Qaa w w') ?_).mono rti
 unfold Qhb nr
 refine Qak fun A w9 hA c9 r9=>Qak fun B w11 hB c11 r11=>?_
 have c011:=c9.trans c11
 have r9':=c11.row (fun h=>h) r9
 simp only [Qad]
 refine ⟨fun us w'=>us=[]∧Chg Qaa w11 w',?_,?_⟩
 ·refine Qaf (n:=M.N) r9' rfl (Qaf (n:=M.N) r11 rfl (Qac (fun k=>by simp at k) (fun _=>Qaj r9' rfl (Qaj r11 rfl ((Qyt (mv.nob c011).v (h.nob c011).v (by show M.X.length≤_;omega)).mono ?_)))))
  rintro r w18 ⟨rfl,c18⟩
  refine ⟨_,rfl,Qac (fun k=>by cases k) (fun _=>Qaj (c18.row (fun h=>h) r9') rfl (Qaj (c18.row (fun h=>h) r11) rfl ((Qyt (mv.nob (c011.trans c18)).e (h.nob (c011.trans c18)).e (by show M.Y.length≤_;omega)).mono ?_)))⟩
  rintro r w23 ⟨rfl,c23⟩
  have c1123:=c18.trans c23
  exact ⟨_,rfl,Qac (fun k=>by cases k) (fun _=>Qaj (c1123.row (fun h=>h) r9') rfl (Qaj (c1123.row (fun h=>h) r11) rfl (Qac (fun k=>by simp at k) (fun _=>⟨rfl,c1123⟩))))⟩
 rintro _ w27 ⟨_,c27⟩
 let J:Nat→List Value→World→Prop:=fun j us w'=>∃i:Nat,us=[.int .i64 i]∧i≤M.m∧Chg Qaa w11 w'∧j=M.m-i
 refine ⟨LI J,LM J,⟨_,0,rfl,Nat.zero_le _,c27,rfl⟩,?_⟩
 intro _ i w31 hJ
 obtain ⟨i,hus,hi,ck,hj⟩:=hJ.at
 simp only [vj] at hus
 subst hus
 refine Qaj (ck.row (fun h=>h) r9') rfl (Qac (fun hlt=>?_) (fun hlt=>?_))<;>simp only [b1s] at hlt
 rotate_left
 ·exact ⟨by trivial,c011.trans ck⟩
 have him:i<M.m:=by omega
 have ckd:=ck.drew
 have c0d:=c011.trans ckd
 rw [wrap64_in (x:=(i:Int)+1) (by omega) (by omega),show ((i:Int)+1)=((i+1:Nat):Int) by omega]
 have k0:=q5 (2*i) (by omega)
 have k1:=q5 (2*i+1) (by omega)
 have k2:=q6 i him
 refine Qaj (w:=w31.drew) (ckd.row (fun h=>h) r9') rfl (ldE (w:=w31.drew) (mv.nob c0d).l him (Qaj (w:=w31.drew) (ckd.row (fun h=>h) r11) rfl (ldE17 (w:=w31.drew) (h.nob c0d).l him ⟨_,_,Qux,Qac (fun k=>?_) (fun _=>?_)⟩)))
 ·dsimp only at k
  rw [k0.1,k0.2,k1.1,k1.2,k2] at k
  simp at k
 ·exact LI.again (k:=M.m-(i+1)) ⟨i+1,rfl,by omega,ckd,rfl⟩ (by rw [hj];omega)
theorem LO.lt {s S A1 A2:Nat} {tl:Nat→List Nat} {b:Bk} {q:List (List Nat)} {B D:Nat→Option (Nat × Nat)} {ky:Nat→Int} (h:LO w s M S tl A1 A2 b q B D ky):LT w S A1 A2 b M.N.toNat (fun v=>decide (v∈liv (toP M.X))) (toP M.X) (toP M.Y) tl q B D ky:=by
 obtain ⟨s1,s2,s3,S1,L1,W1,b1,c1,S2,L2,W2,b2,c2,a1,a2,_⟩:=h.a
 obtain ⟨hM,hdl,_⟩:=Mdl.map h.ok h.rot
 refine ⟨h.r,⟨_,_,_,_,_,a1⟩,⟨_,_,_,_,_,a2⟩,h.g,fun v _=>by rw [decide_eq_true_iff],fun e=>?_⟩
 rw [Qz4]
 unfold Laid
 rw [hdl]
 unfold Mdl.LD
 rw [show 2*e/2=e by omega]
theorem Q9m {X:List (Int × Int)} (h:∀p∈X,0≤p.1∧0≤p.2):itP (toP X)=X:=by
 unfold itP toP
 rw [List.map_map]
 refine (List.map_congr_left fun p hp=>?_).trans (List.map_id _)
 have:=h p hp
 exact Prod.ext (by show ((p.1.toNat:Nat):Int)=p.1;omega) (by show ((p.2.toNat:Nat):Int)=p.2;omega)
theorem LO.eqv {s S A1 A2:Nat} {tl:Nat→List Nat} {b:Bk} {q:List (List Nat)} {B D:Nat→Option (Nat × Nat)} {ky:Nat→Int} (h:LO w s M S tl A1 A2 b q B D ky) (hx:∀p∈M.X,0≤p.1) (hy:∀p∈M.Y,0≤p.1) {vb eb lb:Option Addr} {vc ec lc:Nat}:M.Eqv (stM M.N.toNat (toP M.X) (toP M.Y) tl ky vb vc eb ec lb lc):=by
 obtain ⟨⟨a1,a2,a3,_⟩,⟨b1,b2,b3,_⟩,e,hz,_⟩:=h.ok
 obtain ⟨hM,hdl,hos,_⟩:=Mdl.map h.ok h.rot
 have pos:∀{X:List (Int × Int)},X.any oddP=false→(∀p∈X,0≤p.1)→∀p∈X,0≤p.1∧0≤p.2:=fun {X} ha hx p hp=>by
  obtain ⟨i,hi⟩:=List.getElem?_of_mem hp
  exact ⟨hx p hp,(is_lt (Qlm ha hi)).2⟩
 refine ⟨by show ((M.N.toNat:Nat):Int)=M.N;omega,Q9m (pos a3 hx),Q9m (pos b3 hy),by show (toP M.Y).length=M.m;rw [Qfs,e],fun d hd=>?_,fun e' he=>?_⟩
 ·show (if d∈dl tl M.N.toNat then og tl M.N.toNat d else 0)=_∧(if d∈dl tl M.N.toNat then sg tl M.N.toNat d else 0)=_
  by_cases k:d∈dl tl M.N.toNat
  ·rw [if_pos k,if_pos k]
   have:=hos d ((hdl d).1 k)
   exact this
  ·rw [if_neg k,if_neg k]
   have hl:lv M.Y (d/2)=false:=by
    cases hh:lv M.Y (d/2) with
    | false=>rfl
    | true=>exact absurd ((hdl d).2 hh) k
   obtain ⟨z0,z1,z2,z3,_⟩:=hz (d/2) (by omega) hl
   rcases Nat.mod_two_eq_zero_or_one d with z | z
   ·rw [show 2*(d/2)=d by omega] at z0 z2;rw [z0,z2];exact ⟨rfl,rfl⟩
   ·rw [show 2*(d/2)+1=d by omega] at z1 z3;rw [z1,z3];exact ⟨rfl,rfl⟩
 ·show (if Laid tl M.N.toNat e' then ky e' / 1048576 else 0)=_
  by_cases k:Laid tl M.N.toNat e'
  ·rw [if_pos k,h.k e' k]
   have:=hM.Qbf k
   omega
  ·rw [if_neg k]
   have hl:lv M.Y e'=false:=by
    cases hh:lv M.Y e' with
    | false=>rfl
    | true=>exact absurd ((hdl (2*e')).2 (by unfold Mdl.LD;rw [show 2*e' / 2=e' by omega];exact hh)) k
   exact (hz e' he hl).2.2.2.2.symm
set_option maxRecDepth 4000 in
theorem c_LoadOf (hg:LaidG w) (h:MV0 w M):Calls Pg Qjx #[M.val] w fun e w'=>e=.returned (.bool true)∧Chg Qaa w w':=by
 refine (Qqg _ _ _ _ _ _ _ _ _ _ _ (fun v' w'=>v'=.bool true∧Chg Qaa w w') ?_).mono rti
 unfold Qjk nr
 have sure:∀{w1:World},Chg Qaa w w1→Calls Pg Qev #[] w1 fun e w2=>∃b:Bool,e=.returned (.bool b)∧(Value.bool b=.bool true∧Chg Qaa w w2):=fun hc=>
  Q6z.mono fun e w2 ⟨he,hc2⟩=>⟨true,he,rfl,hc.trans hc2⟩
 refine Qak fun A w5 hA c5 r5=>ldM17 r5 (Zcz.mono ?_)
 simp only [Qad]
 rintro r w11 ⟨rfl,c11⟩
 have c011:=c5.trans c11
 have r11:=c11.row (fun h=>h) r5
 refine ⟨_,rfl,Qac (fun _=>sure c011) (fun hu=>ldM17 r11 ((Q45 (h.nob c011) hu).mono ?_))⟩
 rintro r w24 ⟨c24,vb,vc,eb,ec,lb,lc,rfl,mv⟩
 have c024:=c011.trans c24
 have r24:=c24.row (fun h=>h) r11
 have hu2:¬(40<M.X.length∨40<M.Y.length∨40<M.m∨(60<M.N∧M.N≤1048576)):=by unfold Mdl.hu at hu;rwa [decide_eq_false_iff_not] at hu
 have hN:M.N≤64∨1048576<M.N:=by omega
 refine ⟨_,_,_,_,_,_,_,_,_,_,rfl,(l_Of mv hN h.wb).mono ?_⟩
 let Mg:Mdl:=⟨M.N,M.X,M.Y,M.m,M.fr,M.nx,M.W,vb,vc,eb,ec,lb,lc⟩
 rintro r w28 ⟨c28,⟨S,tl,A1,A2,b,q,B,D,ky,rfl,lo⟩ | ⟨rfl,hno⟩⟩
 rotate_left
 ·have c028:=c024.trans c28
  have r28:=c28.row (fun h=>h) r24
  refine ⟨_,_,rfl,ldM17 r28 ((Q3h (h.nob c028) ⟨by omega,by omega,by omega⟩).mono ?_)⟩
  rintro r w36 ⟨c36,rb,rl,rc,y,rfl,hy⟩
  have hng:¬M.good:=Mdl.Q6a (M:=Mg) hno
  have hyf:y=false:=by
   cases hh:y with
   | false=>rfl
   | true=>exact absurd (hy.1 hh) hng
  subst hyf
  have c036:=c028.trans c36
  refine ⟨_,_,_,_,rfl,Qac (fun _=>⟨fun us w'=>us=[.bool true]∧Chg Qaa w w',(Zhk (hg.chg c036 (fun h=>h))).mono ?_,?_⟩) (fun k=>by cases k)⟩
  ·rintro r w40 ⟨rfl,c40⟩
   refine ⟨_,rfl,Qac (fun _=>Qac (fun _=>(Q6z).mono ?_) (fun k=>by cases k)) (fun k=>by cases k)⟩
   rintro r w43 ⟨rfl,c43⟩
   exact ⟨_,rfl,rfl,(c036.trans c40).trans c43⟩
  ·rintro _ bb w46 ⟨hbb,c46⟩
   simp only [List.cons.injEq,Value.bool.injEq,and_true] at hbb
   exact ⟨by rw [hbb],c46⟩
 ·have c028:=c024.trans c28
  have r28:=c28.row (fun h=>h) r24
  refine ⟨_,_,rfl,ldM17 r28 ((Q3h (h.nob c028) ⟨by omega,by omega,by omega⟩).mono ?_)⟩
  rintro r w36 ⟨c36,rb,rl,rc,y,rfl,hy⟩
  have hgd:Mg.good:=⟨lo.ok,tl,lo.rot,lo.flt⟩
  have hyt:y=true:=hy.2 hgd
  subst hyt
  have c036:=c028.trans c36
  have r36:=c36.row (fun h=>h) r28
  have lt36:=(LO.lt lo).nob c36
  have eqv:∀{vb eb lb:Option Addr} {vc ec lc:Nat},Mg.Eqv (stM M.N.toNat (toP M.X) (toP M.Y) tl ky vb vc eb ec lb lc):=fun {_ _ _ _ _ _}=>LO.eqv (M:=Mg) lo (fun p hp=>(h.x p hp).1) fun p hp=>(h.y p hp).1
  have eqv':∀{vb eb lb:Option Addr} {vc ec lc:Nat},M.Eqv (stM M.N.toNat (toP M.X) (toP M.Y) tl ky vb vc eb ec lb lc):=fun {_ _ _ _ _ _}=>⟨eqv.n,eqv.x,eqv.y,eqv.m,eqv.d,eqv.w⟩
  have hst:∀vb vc eb ec lb lc,(stM M.N.toNat (toP M.X) (toP M.Y) tl ky vb vc eb ec lb lc).good:=fun _ _ _ _ _ _=>eqv.good hgd
  have hNn:M.N.toNat≤64:=by have:=lo.ok.1.1;(have this:1≤M.N∧M.N≤1048576:=this);omega
  refine ⟨_,_,_,_,rfl,Qac (fun k=>by cases k) (fun _=>⟨fun us w'=>us=[]∧w'=w36,Qai (fun k=>absurd rfl k) (fun _=>Qac (fun k=>by cases k) (fun _=>⟨rfl,rfl⟩)),?_⟩)⟩
  rintro _ w48 ⟨_,e48⟩
  rw [e48]
  refine (Q8i lt36 hNn hst).mono ?_
  rintro r w54 ⟨c54,vb2,vc2,eb2,ec2,lb2,lc2,rfl,mv2⟩
  refine ⟨_,_,_,_,_,_,_,_,_,_,_,rfl,Qak fun C w57 hC c57 r57=>Qib r57 rfl (by intro v hv;simp at hv;rcases hv with rfl | rfl | rfl | rfl<;>rfl) fun w58 c58 r58=>?_⟩
  have s57:=c57.size
  have c5458:Chg Qaa w54 w58:=c57.trans' c58 fun k e=>.inr (by omega)
  refine (Zds ((lt36.nob c54).nob c5458) hNn hst).mono ?_
  rintro r w61 ⟨db,dc,rfl,dow,c61⟩
  have c5461:=c5458.trans c61
  have c061:=(c036.trans c54).trans c5461
  refine ⟨_,_,_,_,rfl,Qc0 _,?_⟩
  rw [Qdg]
  refine Qac (fun _=>⟨Qc0 _,?_⟩) (fun k=>by cases k)
  refine Qac (fun _=>?_) (fun k=>by cases k)
  have r61c:Row w61.drew.heap C Qbm (stM M.N.toNat (toP M.X) (toP M.Y) tl ky vb2 vc2 eb2 ec2 lb2 lc2).cl.toList:=c61.row (fun h=>h) r58
  have r61a:Row w61.drew.heap A Qba M.cl.toList:=((c54.trans c5461).row (fun h=>h) r36)
  have c061d:Chg Qaa w w61.drew:=c061.drew
  have mv61:MV w61.drew (stM M.N.toNat (toP M.X) (toP M.Y) tl ky vb2 vc2 eb2 ec2 lb2 lc2):=mv2.nob c5461.drew
  have lt61:=((lt36.nob c54).nob c5461.drew)
  have dva:VA w61.drew db (stM M.N.toNat (toP M.X) (toP M.Y) tl ky none 0 none 0 none 0).bts.length 1 (bys (stM M.N.toNat (toP M.X) (toP M.Y) tl ky none 0 none 0 none 0).bts):=VA.Qbe dow
  have ebt:(stM M.N.toNat (toP M.X) (toP M.Y) tl ky none 0 none 0 none 0).bts=M.bts:=by
   unfold Mdl.bts;rw [eqv'.rm lo.ok.2.2.1]
  rw [ebt] at dva ⊢
  have hpos:0<M.bts.length:=by
   unfold Mdl.bts RM.by_
   simp only [List.length_append,Qbh];omega
  generalize w61.drew=w62 at *
  refine ldM r61c (ldM17 r61a ((Q43 mv61 (h.nob c061d) eqv' (by omega) (by omega) (by omega)).mono ?_))
  rintro r w72 ⟨rfl,c72⟩
  have c072:=c061d.trans c72
  have r72:=c72.row (fun h=>h) r61a
  have dv72:=dva.nob c72
  have lt72:=lt61.nob c72
  have fin:∀{u:World},Chg Qaa w72 u→pt (some ⟨S,0,none⟩) fun a85=>ldP (a85.add 2) u fun p86=>ldI .i64 ⟨A,0,none⟩ u fun n87=>Calls Pg Qi9 #[.pointer p86] u fun e90 w89=>∃n88,e90=.returned (.int .i64 n88)∧w89.cell? ⟨A,0,none⟩=some (.int .i64 n87)∧
    bif (n88==n87) then (Calls Pg Qev #[] w89 fun e93 w92=>∃b91,e93=.returned (.bool b91)∧(fun v' w'=>v'=Value.bool true∧Chg Qaa w w') (.bool b91) w92) else ((fun v' w'=>v'=Value.bool true∧Chg Qaa w w') (.bool false) w89):=by
   intro u cu
   have ltu:=lt72.nob cu
   have ru:=cu.row (fun h=>h) r72
   refine pt_i ?_
   rw [Qad]
   refine Qau ltu.r rfl (Qaf (n:=M.N) ru rfl ((Ze8 ltu.g.toMR).mono ?_))
   rintro r w89 ⟨rfl,e89⟩
   rw [e89]
   refine ⟨_,rfl,by rw [ru.cell];rfl,Qac (fun _=>sure (c072.trans cu)) (fun k=>?_)⟩
   simp only [b1s] at k
   have:=lo.ok.1.1
   have this:1≤M.N∧M.N≤1048576:=this
   omega
  refine ⟨_,rfl,Qac (fun _=>ldM17 r72 ⟨?_,(Q1j (h.nob c072) lo.ok).mono ?_⟩) (fun k=>by cases k)⟩
  ·refine ⟨_,_,Qvv dv72 hpos,Qy3 r72 ((Q1j (h.nob c072) lo.ok).mono ?_)⟩
   rintro r w81 ⟨xb,xc,rfl,xv,c81⟩
   exact ⟨_,_,_,rfl,_,_,Qvv xv hpos,Qac (fun _=>fin c81) (fun k=>by simp at k)⟩
  ·rintro r w95 ⟨xb,xc,rfl,xv,c95⟩
   exact ⟨_,_,_,rfl,⟨_,_,Qvv (dv72.nob c95) hpos,_,_,Qvv xv hpos,Qac (fun _=>fin c95) (fun k=>by simp at k)⟩,_,_,Qvv xv hpos,_,_,Qvv (dv72.nob c95) hpos,Qac (fun _=>fin c95) (fun k=>by simp at k)⟩
end
end Core
end Go.Proofs.YtfeekmmfdkfgmaaGreatDoor
