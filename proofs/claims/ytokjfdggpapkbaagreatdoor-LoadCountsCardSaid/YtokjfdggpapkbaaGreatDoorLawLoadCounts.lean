/-
The law LoadCounts: of the state of a model as many vertices and edges are laid as are live; all of them are found by their handles.
Conditions: the package variable of errors is laid out.
-/
import Derived.Test.YtokjfdggpapkbaaGreatDoorHsh
import Derived.Test.YtokjfdggpapkbaaGreatDoorHmodel
import Derived.Test.YtokjfdggpapkbaaGreatDoorHold
set_option linter.unusedVariables false
set_option linter.unusedSimpArgs false
set_option linter.unnecessarySimpa false
namespace Go.Proofs.YtokjfdggpapkbaaGreatDoor
open Go Go.RowKit
namespace Core
open Go.Proofs.YtokjfdggpapkbaaGreatDoor.Seq Go.Proofs.YtokjfdggpapkbaaGreatDoor.Cut Go.Proofs.YtokjfdggpapkbaaGreatDoor.Web
section
variable {w w':World} {M:Mdl} {b:Bk} {N:Nat} {lv':Nat→Bool} {tl:Nat→List Nat} {q:List (List Nat)} {B D:Nat→Option (Nat × Nat)} {ky:Nat→Int}
theorem x_Live {v:Int} (h:GM w.heap b N lv' tl q B D ky):Calls Pg Qo5 #[.pointer (some ⟨b.M,0,none⟩),.int .i64 v] w fun r w'=>r=.returned (.bool (decide (vE lv' N v=0)))∧w'=w:=by
 refine (Qth _ _ _ (fun v' w'=>v'=.bool (decide (vE lv' N v=0))∧w'=w) ?_).mono (by rintro e w' ⟨v,rfl,rfl,k⟩;exact ⟨rfl,k⟩)
 unfold Qox nr
 refine (Qyx h.toMR.x).mono ?_
 rintro r w3 ⟨rfl,rfl⟩
 exact ⟨_,rfl,Qbx _,by rw [Qbw],rfl⟩
theorem sm_ext {f:Nat→Int} {n:Nat}:∀{N:Nat},n≤N→(∀i,n≤i→f i=0)→sm f N=sm f n
 | 0,h,_=>by rw [Nat.le_zero.1 h]
 | N+1,h,h0=>by
  by_cases e:n=N+1
  ·rw [e]
  ·rw [sm,sm_ext (by omega) h0,h0 N (by omega)];omega
theorem c_LoadCounts (hg:LaidG w) (h:MV0 w M):Calls Pg Qgq #[M.val] w fun e w'=>e=.returned (.bool true)∧Chg Qaa w w':=by
 refine (Qkp _ _ _ _ _ _ _ _ _ _ _ (fun v' w'=>v'=.bool true∧Chg Qaa w w') ?_).mono (by rintro e w' ⟨v,rfl,rfl,k⟩;exact ⟨rfl,k⟩)
 unfold Qgn nr
 have sure:∀{w1:World},Chg Qaa w w1→Calls Pg Qhm #[] w1 fun e w2=>∃b:Bool,e=.returned (.bool b)∧(Value.bool b=.bool true∧Chg Qaa w w2):=fun hc=>
  Q3m.mono fun e w2 ⟨he,hc2⟩=>⟨true,he,rfl,hc.trans hc2⟩
 refine Qao fun A w5 hA c5 r5=>ldM17 r5 (c_huge18.mono ?_)
 rintro r w11 ⟨rfl,c11⟩
 have c011:=c5.trans c11
 have r11:=c11.row (fun h=>h) r5
 refine ⟨_,rfl,Qad (fun _=>sure c011) (fun hu=>ldM17 r11 ((Q1y (h.nob c011) hu).mono ?_))⟩
 rintro r w24 ⟨c24,vb,vc,eb,ec,lb,lc,rfl,mv⟩
 have c024:=c011.trans c24
 have r24:=c24.row (fun h=>h) r11
 have hN:M.N≤64∨1048576<M.N:=by unfold Mdl.hu at hu;rw [decide_eq_false_iff_not] at hu;omega
 refine ⟨_,_,_,_,_,_,_,_,_,_,rfl,(l_Of mv hN h.wb).mono ?_⟩
 rintro r w28 ⟨c28,⟨S,tl,A1,A2,b,q,B,D,ky,rfl,lo⟩ | ⟨rfl,_⟩⟩
 rotate_left
 ·have c028:=c024.trans c28
  refine ⟨_,_,rfl,Qai (fun _=>⟨fun us w'=>us=[.bool true]∧Chg Qaa w w',Qad (fun _=>(c_num18 (hg.chg c028 (fun h=>h))).mono ?_) (fun k=>by cases k),?_⟩) (fun e=>absurd e (by decide))⟩
  ·rintro r w32 ⟨rfl,c32⟩
   refine ⟨_,rfl,Qad (fun _=>(Q3m).mono ?_) (fun k=>by cases k)⟩
   rintro r w35 ⟨rfl,c35⟩
   exact ⟨_,rfl,rfl,(c028.trans c32).trans c35⟩
  ·rintro _ b37 w38 ⟨hb,c38⟩
   simp only [List.cons.injEq,Value.bool.injEq,and_true] at hb
   subst hb
   exact ⟨rfl,c38⟩
 generalize hM':Mdl.mk M.N M.X M.Y M.m M.fr M.nx M.W vb vc eb ec lb lc=M' at *
 have eN:M'.N=M.N:=by rw [←hM']
 have eX:M'.X=M.X:=by rw [←hM']
 have eY:M'.Y=M.Y:=by rw [←hM']
 have em:M'.m=M.m:=by rw [←hM']
 have eW:M'.W=M.W:=by rw [←hM']
 obtain ⟨ok,rot,flt,rS,ha,gm,hky⟩:=lo
 obtain ⟨s1,s2,s3,S1,L1,W1,b1,c1,S2,L2,W2,b2,c2,ar1,ar2,_⟩:=ha
 obtain ⟨hM,hdl,_,_,_⟩:=Mdl.map ok rot
 obtain ⟨o1,o2,eYm,_,_⟩:=ok
 have n1:=o1.2.1
 have n2:=o2.2.1
 have n3:=o1.1
 rw [eN] at n3 hdl gm ar1 ar2 hky
 rw [eX] at n1 gm ar1
 rw [eY] at n2 eYm ar2
 rw [eN] at n1 n2
 rw [em] at eYm
 have hLaid:∀e:Nat,Laid tl M.N.toNat e↔lv M.Y e=true:=fun e=>by
  unfold Laid
  rw [hdl]
  unfold Mdl.LD
  rw [eY,show 2*e/2=e by omega]
 have hlv:∀v:Nat,decide (v∈liv (toP M.X))=lv M.X v:=fun v=>by
  rw [Bool.eq_iff_iff,decide_eq_true_iff];exact Qzh
 have c028:=c024.trans c28
 have r28:=c28.row (fun h=>h) r24
 clear hM' mv hM o1 o2 flt rot
 refine ⟨_,_,rfl,Qai (fun e=>absurd rfl e) (fun _=>⟨fun us w'=>us=[]∧Chg Qaa w28 w',Qad (fun k=>by cases k) (fun _=>?_),?_⟩)⟩
 ·rw [Qac,Qac]
  refine Qaj r28 rfl (Qaj r28 rfl (Qad (fun k=>?_) (fun _=>⟨rfl,Chg.refl _ _⟩)))
  simp only [b1s] at k
  omega
 rintro _ w42 ⟨_,c42⟩
 let f1:Nat→Int:=fun v=>if decide (v∈liv (toP M.X))=true then 1 else 0
 let f2:Nat→Int:=fun e=>if Laid tl M.N.toNat e then 1 else 0
 have f1b:∀k,0≤sm f1 k∧sm f1 k≤k:=fun k=>by
  have:=Qts (n:=k) (f:=f1) (m:=1) fun i _=>by show 0≤(if _ then (1:Int) else 0)∧(if _ then (1:Int) else 0)≤1;split<;>omega
  omega
 have f2b:∀k,0≤sm f2 k∧sm f2 k≤k:=fun k=>by
  have:=Qts (n:=k) (f:=f2) (m:=1) fun i _=>by show 0≤(if _ then (1:Int) else 0)∧(if _ then (1:Int) else 0)≤1;split<;>omega
  omega
 let J:Nat→List Value→World→Prop:=fun j us w'=>∃k:Nat,us=[.int .i64 (sm f1 k),.int .i64 k]∧k≤M.X.length∧Chg Qaa w28 w'∧j=M.X.length-k
 refine ⟨LI J,LM J,⟨_,0,rfl,by omega,c42,rfl⟩,?_⟩
 intro _ x k w47 hJ
 obtain ⟨k,hvs,hk,ck,hj⟩:=hJ.at
 simp only [List.cons.injEq,Value.int.injEq,and_true,true_and] at hvs
 obtain ⟨rfl,rfl⟩:=hvs
 have r47:=ck.row (fun h=>h) r28
 have c047:=c028.trans ck
 have hxb:=f1b k
 simp only [Qac]
 refine Qaj r47 rfl (Qad (fun hlt=>pt_i ?_) (fun hlt=>?_))<;>simp only [b1s] at hlt
 ·obtain ⟨p,hp⟩:∃p,M.X[k]?=some p:=⟨_,List.getElem?_eq_getElem (by omega)⟩
  have hpb:=h.x p (List.mem_of_getElem? hp)
  obtain ⟨g,hpg⟩:∃g:Nat,p.1=g:=⟨p.1.toNat,by omega⟩
  have ckd:Chg Qaa w28 w47.drew:=ck.drew
  have hv:lv M.X k=(p.2==1):=by unfold lv;rw [hp]
  have hvE:decide (vE (fun v=>decide (v∈liv (toP M.X))) M.N.toNat (k:Int)=0)=(p.2==1):=by
   unfold vE
   rw [if_pos (by omega),Int.toNat_natCast]
   show decide ((if decide (k∈liv (toP M.X))=true then (0:Int) else 13)=0)=_
   rw [hlv,hv]
   cases (p.2==1)<;>rfl
  have hf1:f1 k=if (p.2==1)=true then 1 else 0:=by
   show (if decide (k∈liv (toP M.X))=true then (1:Int) else 0)=_
   rw [hlv,hv]
  have hs1:sm f1 (k+1)=sm f1 k+f1 k:=rfl
  refine Qas (w:=w47.drew) (ckd.row (fun h=>h) rS) rfl (Qaj (w:=w47.drew) r47 rfl (cvz0 (w:=w47.drew) (h.v.nob c047.drew) hp ?_))
  rw [hpg,Qwr (by omega) (by omega),wrap64_in (x:=(k:Int)+1) (by omega) (by omega),wrap64_in (x:=sm f1 k+1) (by omega) (by omega),show ((k:Int)+1)=((k+1:Nat):Int) by omega]
  refine (Q11 (w:=w47.drew) (ar1.nob ckd) (g:=g) (q:=k) (by omega) (by omega)).mono ?_
  rintro r w56 ⟨c56,_,e1,e2⟩
  have c2856:=ckd.trans c56
  have c056:=c028.trans c2856
  have r56:=c2856.row (fun h=>h) r28
  have g56:=gm.keep c2856 (fun _ h=>h.elim)
  have rS56:=c2856.row (fun h=>h) rS
  have hq:=toP_at hp
  rw [hpg,Int.toNat_natCast] at hq
  cases hb:(p.2==1)
  ·have e2':=e2 (by omega) (by rw [hq];intro e;simp at e;rw [show p.2=1 by omega] at hb;cases hb)
   subst e2'
   refine ⟨_,_,rfl,Qaj r56 rfl (cvz1 (h.v.nob c056) hp ⟨Qbx _,?_⟩)⟩
   rw [Qbw,hb]
   refine Qad (fun k=>by cases k) (fun _=>Qad (fun k=>by cases k) (fun _=>pt_i ?_))
   rw [Qac]
   refine Qas rS56 rfl ((x_Live g56).mono ?_)
   rintro r w69 ⟨rfl,rfl⟩
   refine ⟨_,rfl,?_⟩
   rw [hvE,hb]
   refine Qad (fun k=>by cases k) (fun _=>Qad (fun k=>by cases k) (fun _=>LI.again (k:=M.X.length-(k+1)) ⟨k+1,?_,by omega,c2856,rfl⟩ (by rw [hj];omega)))
   rw [hs1,hf1,hb];simp
  ·have e1':=e1 (by omega) (by rw [hq,eq_of_beq hb];rfl)
   subst e1'
   refine ⟨_,_,rfl,Qaj r56 rfl (cvz1 (h.v.nob c056) hp ⟨Qbx _,?_⟩)⟩
   rw [Qbw,hb]
   refine Qad (fun k=>by cases k) (fun _=>Qad (fun _=>Qad (fun k=>by simp at k) (fun _=>pt_i ?_)) (fun k=>by cases k))
   rw [Qac]
   refine Qas rS56 rfl ((x_Live g56).mono ?_)
   rintro r w64 ⟨rfl,rfl⟩
   refine ⟨_,rfl,?_⟩
   rw [hvE,hb]
   refine Qad (fun k=>by cases k) (fun _=>Qad (fun _=>LI.again (k:=M.X.length-(k+1)) ⟨k+1,?_,by omega,c2856,rfl⟩ (by rw [hj];omega)) (fun k=>by cases k))
   rw [hs1,hf1,hb];simp
 have hkX:k=M.X.length:=by omega
 let J2:Nat→List Value→World→Prop:=fun j us w'=>∃i:Nat,us=[.int .i64 (sm f2 i),.int .i64 i]∧i≤M.Y.length∧Chg Qaa w28 w'∧j=M.Y.length-i
 refine ⟨LI J2,LM J2,⟨_,0,rfl,by omega,ck,rfl⟩,?_⟩
 intro _ y i w75 hJ2
 obtain ⟨i,hvs,hi,ck2,hj2⟩:=hJ2.at
 simp only [List.cons.injEq,Value.int.injEq,and_true,true_and] at hvs
 obtain ⟨rfl,rfl⟩:=hvs
 have r75:=ck2.row (fun h=>h) r28
 have c075:=c028.trans ck2
 have hyb:=f2b i
 refine Qaj r75 rfl (Qad (fun hlt=>pt_i ?_) (fun hlt=>pt_i ?_))<;>simp only [b1s] at hlt
 ·obtain ⟨p,hp⟩:∃p,M.Y[i]?=some p:=⟨_,List.getElem?_eq_getElem (by omega)⟩
  have hpb:=h.y p (List.mem_of_getElem? hp)
  obtain ⟨g,hpg⟩:∃g:Nat,p.1=g:=⟨p.1.toNat,by omega⟩
  have ckd:Chg Qaa w28 w75.drew:=ck2.drew
  have hv:lv M.Y i=(p.2==1):=by unfold lv;rw [hp]
  have hLi:=hLaid i
  rw [hv] at hLi
  have hf2:f2 i=if (p.2==1)=true then 1 else 0:=by
   show (if Laid tl M.N.toNat i then (1:Int) else 0)=_
   by_cases e:(p.2==1)=true
   ·rw [if_pos e,if_pos (hLi.2 e)]
   ·rw [if_neg e,if_neg (fun k=>e (hLi.1 k))]
  have heE:decide (eE tl M.N.toNat (i:Int)=0)=(p.2==1):=by
   rw [Bool.eq_iff_iff,decide_eq_true_iff,←hLi]
   constructor
   ·intro e
    obtain ⟨x,hx,hl⟩:=Qzr e
    obtain rfl:i=x:=by omega
    exact hl
   ·exact fun hl=>eE_of (by omega) hl
  have hs1:sm f2 (i+1)=sm f2 i+f2 i:=rfl
  rw [Qac]
  refine Qas (w:=w75.drew) (ckd.row (fun h=>h) rS) rfl (Qaj (w:=w75.drew) r75 rfl (cvz0 (w:=w75.drew) (h.e.nob c075.drew) hp ?_))
  rw [hpg,Qwr (by omega) (by omega),wrap64_in (x:=(i:Int)+1) (by omega) (by omega),wrap64_in (x:=sm f2 i+1) (by omega) (by omega),show ((i:Int)+1)=((i+1:Nat):Int) by omega]
  refine (Q11 (w:=w75.drew) (ar2.nob ckd) (g:=g) (q:=i) (by omega) (by omega)).mono ?_
  rintro r w84 ⟨c84,_,e1,e2⟩
  have c2884:=ckd.trans c84
  have c084:=c028.trans c2884
  have r84:=c2884.row (fun h=>h) r28
  have g84:=gm.keep c2884 (fun _ h=>h.elim)
  have rS84:=c2884.row (fun h=>h) rS
  have hq:=toP_at hp
  rw [hpg,Int.toNat_natCast] at hq
  cases hb:(p.2==1)
  ·have e2':=e2 (by omega) (by rw [hq];intro e;simp at e;rw [show p.2=1 by omega] at hb;cases hb)
   subst e2'
   refine ⟨_,_,rfl,Qaj r84 rfl (cvz1 (h.e.nob c084) hp (pt_i ?_))⟩
   rw [Qac]
   refine Qas rS84 rfl ((Q18 g84).mono ?_)
   rintro r w93 ⟨rfl,z,rfl,_,_⟩
   refine ⟨_,_,rfl,Qbx _,?_⟩
   rw [Qbw,Qbw,hb,heE,hb]
   refine Qad (fun k=>by cases k) (fun _=>Qad (fun k=>by cases k) (fun _=>pt_i ?_))
   rw [Qac]
   refine Qas rS84 rfl ((x_Has g84).mono ?_)
   rintro r w106 ⟨rfl,rfl⟩
   refine ⟨_,rfl,?_⟩
   rw [heE,hb]
   refine Qad (fun k=>by cases k) (fun _=>⟨Qbx _,Qad (fun k=>by cases k) (fun _=>Qad (fun k=>by cases k) (fun _=>Qad (fun k=>by cases k) (fun _=>LI.again (k:=M.Y.length-(i+1)) ⟨i+1,?_,by omega,c2884,rfl⟩ (by rw [hj2];omega))))⟩)
   rw [hs1,hf2,hb];simp
  ·have e1':=e1 (by omega) (by rw [hq,eq_of_beq hb];rfl)
   subst e1'
   have he0:eE tl M.N.toNat (i:Int)=0:=by rw [hb] at heE;exact of_decide_eq_true heE
   have hkyi:=hky i (hLi.2 hb)
   rw [eW] at hkyi
   refine ⟨_,_,rfl,Qaj r84 rfl (cvz1 (h.e.nob c084) hp (pt_i ?_))⟩
   rw [Qac]
   refine Qas rS84 rfl ((Q18 g84).mono ?_)
   rintro r w93 ⟨rfl,z,rfl,_,hz⟩
   have hz:=hz he0
   rw [Int.toNat_natCast] at hz
   refine ⟨_,_,rfl,Qbx _,?_⟩
   rw [Qbw,Qbw,hb,heE,hb]
   refine Qad (fun k=>by cases k) (fun _=>Qad (fun _=>Qad (fun k=>by simp at k) (fun _=>pt_i ?_)) (fun k=>by cases k))
   rw [Qac]
   refine Qas rS84 rfl ((x_Has g84).mono ?_)
   rintro r w98 ⟨rfl,rfl⟩
   refine ⟨_,rfl,?_⟩
   rw [heE,hb]
   refine Qad (fun k=>by cases k) (fun _=>⟨Qbx _,Qad (fun k=>by cases k) (fun _=>Qad (fun _=>Qaj r84 rfl (ldW17 (h.l.nob c084) (by omega) (Qad (fun k=>?_) (fun _=>Qad (fun _=>LI.again (k:=M.Y.length-(i+1)) ⟨i+1,?_,by omega,c2884,rfl⟩ (by rw [hj2];omega)) (fun k=>by cases k))))) (fun k=>by cases k))⟩)
   ·simp only [b1s] at k
    omega
   ·rw [hs1,hf2,hb];simp
 ·have hiY:i=M.Y.length:=by omega
  have g75:=gm.keep ck2 (fun _ h=>h.elim)
  have hV:cV (fun v=>decide (v∈liv (toP M.X))) M.N.toNat=sm f1 k:=by
   rw [hkX]
   exact sm_ext (by omega) fun v hv=>by
    show (if decide (v∈liv (toP M.X))=true then (1:Int) else 0)=0
    rw [hlv]
    exact if_neg fun e=>by have:=Qt2 e;omega
  have hE:cE tl M.N.toNat=sm f2 i:=by
   rw [hiY]
   exact sm_ext (by omega) fun e he=>if_neg fun hl=>by have:=Qt2 ((hLaid e).1 hl);omega
  rw [Qac]
  refine Qas (ck2.row (fun h=>h) rS) rfl ((Qzy g75.toMR).mono ?_)
  rintro r w117 ⟨rfl,c117⟩
  rw [hV,hE]
  generalize 2*(sm f1 k-cB B M.N.toNat)-sm f1 k+sm f2 i=z1
  generalize sm f1 k-cB B M.N.toNat=z2
  refine ⟨_,_,_,_,rfl,Qao fun C w120 hC c120 r120=>Qa0 r120 (by simp) rfl fun w121 c121 r121=>?_⟩
  rw [Qac,Qac,Qac]
  refine Qa0 r121 (by simp) rfl fun w122 c122 r122=>Qa0 r122 (by simp) rfl fun w123 c123 r123=>Qa0 r123 (by simp) rfl fun w124 c124 r124=>?_
  have s117:=c117.size
  have c0124:Chg Qaa w w124:=((c075.trans c117).trans c120).trans' (((c121.trans c122).trans c123).trans c124) fun k e=>.inr (by have:=c075.size;have:=c117.size;omega)
  refine Qaf (n:=sm f1 k) r124 rfl (Qad (fun _=>Qaf (n:=sm f2 i) r124 rfl (Qad (fun _=>?_) (fun k=>by simp at k))) (fun k=>by simp at k))
  refine Qaf (n:=sm f1 k) r124 rfl (Qaf (n:=sm f2 i) r124 rfl (Qaf (n:=z1) r124 rfl (Qaf (n:=z2) r124 rfl ⟨_,_,(Qy8 (k:=.i64) (offs:=[0,1,2,3]) (X:=fun o=>if o=0 then sm f1 k else if o=1 then sm f2 i else if o=2 then z1 else z2) (Y:=fun o=>if o=0 then -1 else 0) (by kernel_rfl) (by kernel_rfl) (by kernel_rfl) (by kernel_rfl) (by kernel_rfl) ?_).2,?_⟩)))
  ·intro o ho
   simp only [List.mem_cons,List.not_mem_nil,or_false] at ho
   rcases ho with rfl | rfl | rfl | rfl<;>exact ⟨rfl,rfl⟩
  ·refine Qad (fun _=>sure c0124) (fun k=>?_)
   simp at k
   omega
end
end Core
end Go.Proofs.YtokjfdggpapkbaaGreatDoor
