/-
The law CoreFaces: all faces are the faces that have darts, and the vertices that have none.
Conditions: those that each theorem states.
-/
import Derived.Test.YtpmicakdjhoafaaGreatDoorShPlaitlaw16CoreFaces
import Derived.Test.YtpmicakdjhoafaaGreatDoorGLawC
import Derived.Test.YtpmicakdjhoafaaGreatDoorCoreY
set_option linter.unusedVariables false
set_option linter.unusedSimpArgs false
namespace Go.Proofs.YtpmicakdjhoafaaGreatDoor
open Go Go.RowKit
namespace Core
open Go.Proofs.YtpmicakdjhoafaaGreatDoor.Seq Go.Proofs.YtpmicakdjhoafaaGreatDoor.Cut Go.Proofs.YtpmicakdjhoafaaGreatDoor.Web
section
variable {N d x y n:Nat} {b:Bk} {lv:Nat→Bool} {tl:Nat→List Nat} {q:List (List Nat)} {B D:Nat→Option (Nat × Nat)} {ky:Nat→Int} {h0:Array Obj} {L:List Nat} {P:Nat→Nat→Prop} {S:Nat→Prop} {lim:Nat→Prop}
theorem CB.lk0 (h:CB lim N tl q B D) (hx:x<3*N):LK q (fun _=>none) x y↔SF q x y:=by
 constructor
 ·intro k
  induction k with
  | refl=>obtain ⟨A,hA,k⟩:=h.al x hx;exact ⟨A,hA,k,k⟩
  | step _ k ih=>
   rcases k with k | ⟨_,k | k⟩
   ·exact sf_trans h.nd ih k
   ·cases k
   ·cases k
 ·exact LK.sf
theorem cl_succ:cl P S (n+1)=cl P S n+if bl (S n∧∀y,y<n→S y→¬P n y)=true then 1 else 0:=by
 unfold cl
 rw [List.range_succ,List.filter_append,List.length_append]
 congr 1
 by_cases h:bl (S n∧∀y,y<n→S y→¬P n y)=true
 ·rw [if_pos h,List.filter_cons];simp [h]
 ·rw [if_neg h,List.filter_cons];simp [h]
theorem sm_two {p L:Nat→Prop} [DecidablePred p] [DecidablePred L] (h:∀e,(p (2*e)↔L e)∧(p (2*e+1)↔L e)):∀n:Nat,sm (fun x=>if p x then 1 else 0) (2*n)=2*sm (fun e=>if L e then 1 else 0) n
 | 0=>rfl
 | n+1=>by
  have ih:=sm_two h n
  obtain ⟨h1,h2⟩:=h n
  rw [show 2*(n+1)=2*n+1+1 by omega]
  have e:∀(f:Nat→Int) m,sm f (m+1)=sm f m+f m:=fun _ _=>rfl
  rw [e,e,e,ih]
  by_cases k:L n
  ·rw [if_pos (h1.2 k),if_pos (h2.2 k),if_pos k];omega
  ·rw [if_neg (fun j=>k (h1.1 j)),if_neg (fun j=>k (h2.1 j)),if_neg k];omega
theorem sm_list:∀{L:List Nat} {s:Nat→Bool},L.Nodup→(∀x∈L,x<n∧s x=false)→sm (fun x=>if (s x || decide (x∈L))=true then (1:Int) else 0) n=sm (fun x=>if s x=true then 1 else 0) n+L.length
 | [],s,_,_=>by simp
 | a::L,s,hn,h=>by
  obtain ⟨h1,h2⟩:=List.nodup_cons.1 hn
  obtain ⟨ha,hs⟩:=h a List.mem_cons_self
  have ih:=sm_list (L:=L) (s:=upd s a true) h2 fun x hx=>by
   have hxa:x≠a:=by rintro rfl;exact h1 hx
   rw [Qak _ _ hxa];exact h x (List.mem_cons_of_mem _ hx)
  have e1:sm (fun x=>if (s x || decide (x∈a::L))=true then (1:Int) else 0) n=sm (fun x=>if (upd s a true x || decide (x∈L))=true then 1 else 0) n:=sm_congr fun i hi=>by
   by_cases k:i=a
   ·subst k;rw [Qac];simp
   ·rw [Qak _ _ k];simp [k]
  have e2:=sm_at (n:=n) (f:=fun x=>if upd s a true x=true then (1:Int) else 0) (g:=fun x=>if s x=true then 1 else 0) ha fun i hi=>by rw [Qak _ _ hi]
  rw [Qac,hs] at e2
  rw [e1,ih,e2]
  simp only [List.length_cons]
  simp;omega
end
theorem c_CoreFaces {w:World} {n:Int} {sb:Option Addr} {sl sc:Nat} {f:Nat→Nat→Int} (hg:LaidG w) (hf:AC w sb sl f) (hfw:∀i,i<sl→-2147483648≤f i 6∧f i 6≤2147483647) :
  Calls Pg Qi2 #[.int .i64 n,.slice sb sl sc] w fun e w'=>e=.returned (.bool true)∧Chg Qab w w':=by
 refine (calls_plaitlaw16_CoreFaces _ _ _ _ _ (fun v' w'=>v'=.bool true∧Chg Qab w w') ?_).mono (by rintro e w' ⟨v,rfl,rfl,k⟩;exact ⟨rfl,k⟩)
 unfold Qik
 obtain ⟨N,hm0,hm1,he⟩:=size_ex n 1 9 (by omega) (by omega) (by omega)
 rw [he,wrap64_in (x:=(2:Int)*N) (by omega) (by omega),show ((2:Int)*N)=((2*N:Nat):Int) by omega,Int.toNat_natCast]
 refine ⟨by decide,(c_grown16 hg (by omega) (by omega) hf hfw).mono ?_⟩
 rintro r w2 ⟨b,lb,lc,tb,tc,wb,wc',lv,tl,q,B,D,ky,W,rfl,hL⟩
 refine ⟨_,_,_,_,_,_,_,_,_,_,_,_,rfl,Qa4 fun A w3 hA c3 r3=>sts_r r3 rfl (by simp [oneC]) fun w4 c4 rA=>Qaf (fun h=>by cases h) fun _=>⟨by omega,by omega,by omega,Qa4 fun C w5 hC c5 rC=>?_⟩⟩
 rw [Qbq] at rC
 have s3:=c3.size
 have s4:=c4.size
 have s5:=c5.size
 have lA:=r3.lt
 have lC:=rC.lt
 have hlow:=hL.a.toMR.x.lowA
 have hlo:=hL.lo
 have c25:Chg Qab w2 w5:=(c3.trans' c4 fun i e=>.inr (by omega)).trans c5
 have sv:SV w w5 b N lv tl q B D ky:=⟨hL.c.trans c25,hL.lo,(hL.a.nob c25).a⟩
 have s02:=hL.c.size
 have hAb:¬b.ch A:=fun k=>by have:=hlow A (Bk.sub k);omega
 have hCb:¬b.ch C:=fun k=>by have:=hlow C (Bk.sub k);omega
 have hAC:A≠C:=by omega
 have rA:=c5.row (fun h=>h) rA
 have hx:XR w5 (fun k=>(b.ch k∨False)∨(w2.heap.size≤k∧k<w5.heap.size)) N lv tl W lb tb wb:=(hL.x.old (n:=w5.heap.size)).nob c25
 have hvl:VA w5 lb N 1 (recs (bc lv) N):=hx.l
 have hvo:=hx.lo
 clear hx hL r3
 let St:(Nat→Bool)→World→Prop:=fun sn w'=>SV w w' b N lv tl q B D ky∧Row w'.heap A Qal [.int .i64 (N:Nat),.slice lb N lc,.int .i64 (N:Nat),.slice tb N tc,.slice wb N wc']∧VA w' lb N 1 (recs (bc lv) N)∧Row w'.heap C T_bool (recs (bc sn) (2*N))∧w5.heap.size≤w'.heap.size
 have stG:∀{sn:Nat→Bool} {w6 w7:World},St sn w6→GS w6 w7 b N lv tl q B D ky→St sn w7:=fun {sn w6 w7} h k=>⟨h.1.gs k,k.c.row hAb h.2.1,h.2.2.1.keep k.c fun g hg e j=>hvo g hg e (.inl (.inl j)),k.c.row hCb h.2.2.2.1,Nat.le_trans h.2.2.2.2 k.c.size⟩
 have stN:∀{sn:Nat→Bool} {w6 w7:World},St sn w6→Chg Qab w6 w7→St sn w7:=fun {sn w6 w7} h k=>stG h (h.1.a.nob k)
 have st0:St (fun _=>false) w5:=⟨sv,rA,hvl,rC,Nat.le_refl _⟩
 have cb:=sv.a.cb
 have hM:=cb.mp
 have eul:=sv.a.euler
 clear sv rA rC hvl c25
 let seen:Nat→Nat→Prop:=fun d x=>x∈dl tl N∧∃y,y<d∧y∈dl tl N∧SF q y x
 let Sn:Nat→(Nat→Bool)→Prop:=fun d sn=>∀x,sn x=true↔seen d x
 let J:Nat→List Value→World→Prop:=fun j vs w'=>∃(d:Nat) (sn:Nat→Bool) (al:Int),vs=[.int .i64 (cl (LK q fun _=>none) (·∈dl tl N) d:Nat),.int .i64 al,.int .i64 d]∧d≤2*N∧St sn w'∧Sn d sn∧al=sm (fun x=>if sn x=true then 1 else 0) (2*N)∧j=2*N-d
 refine ⟨LI J,LM J,⟨_,0,_,_,rfl,by omega,st0,fun x=>⟨fun k=>(by cases k),fun k=>(by obtain ⟨_,y,hy,_⟩:=k;omega)⟩,(sm_all fun i hi=>by simp).symm,rfl⟩,?_⟩
 clear st0
 intro _ fc al d w6 hJ
 obtain ⟨d,sn,al,hvs,hd,st,hsn,hal,hj⟩:=hJ.at
 simp only [List.cons.injEq,Value.int.injEq,and_true,true_and] at hvs
 obtain ⟨rfl,rfl,rfl⟩:=hvs
 have alb:0≤al∧al≤1*(2*N:Nat):=by rw [hal];exact sm_bound fun i hi=>by split<;>omega
 have clb:cl (LK q fun _=>none) (·∈dl tl N) d≤d:=by
  unfold cl
  have:=List.length_filter_le (fun x=>bl (x∈dl tl N∧∀y,y<x→y∈dl tl N→¬LK q (fun _=>none) x y)) (List.range d)
  rwa [List.length_range] at this
 refine Qaf (fun k1=>?_) (fun k1=>?_)<;>simp only [b1s] at k1
 ·have hd2:d<2*N:=by omega
  have skip:∀{w7:World},St sn w7→(d∈dl tl N→seen d d)→LI J [.int .i64 (cl (LK q fun _=>none) (·∈dl tl N) d:Nat),.int .i64 al,.int .i64 (IntKind.wrap .i64 ((d:Int)+1))] w7∧LM J [.int .i64 (cl (LK q fun _=>none) (·∈dl tl N) d:Nat),.int .i64 al,.int .i64 (IntKind.wrap .i64 ((d:Int)+1))] w7<LM J [.int .i64 (cl (LK q fun _=>none) (·∈dl tl N) d:Nat),.int .i64 al,.int .i64 d] w6:=fun {w7} h1 h2=>by
   rw [wrap64_in (x:=(d:Int)+1) (by omega) (by omega)]
   have e1:cl (LK q fun _=>none) (·∈dl tl N) d=cl (LK q fun _=>none) (·∈dl tl N) (d+1):=by
    rw [cl_succ,if_neg,Nat.add_zero]
    rw [bl_iff]
    rintro ⟨h3,h4⟩
    obtain ⟨_,y,hy,hy2,hy3⟩:=h2 h3
    exact h4 y hy hy2 (LK.sf hy3.symm)
   refine LI.again (k:=2*N-(d+1)) ⟨d+1,sn,al,by rw [←e1];rfl,by omega,h1,fun x=>?_,hal,rfl⟩ (by rw [hj];omega)
   rw [hsn x]
   constructor
   ·rintro ⟨h3,y,hy,h4⟩;exact ⟨h3,y,by omega,h4⟩
   ·rintro ⟨h3,y,hy,h4,h5⟩
    refine ⟨h3,?_⟩
    by_cases e:y=d
    ·subst e
     obtain ⟨_,z,hz,hz2,hz3⟩:=h2 h4
     exact ⟨z,hz,hz2,sf_trans cb.nd hz3 h5⟩
    ·exact ⟨y,by omega,h4,h5⟩
  refine (x_Face st.1.a).mono ?_
  rintro r w7 ⟨L,ob,oc,rfl,vL,oL,gs,hL1,hL2⟩
  have lowb:=st.1.a.toMR.x.lowA
  have s67:=gs.c.size
  have st7:=stG st gs
  refine ⟨_,_,_,_,rfl,(x_FaceLen st7.1.a).mono ?_⟩
  rintro r w8 ⟨m,rfl,gs8,hm1,hm2⟩
  have st8:=stG st7 gs8
  have hob:∀{w9 w10:World},GS w9 w10 b N lv tl q B D ky→VA w9 ob L.length 1 (ivs L)→VA w10 ob L.length 1 (ivs L):=fun {w9 w10} k h=>h.keep k.c fun g hg e j=>oL g hg e (lowb g (Bk.sub j))
  have vL8:=hob gs8 vL
  have hm:m=L.length:=by
   by_cases k:dE tl N d=0
   ·exact hm1 k L (hL1 k)
   ·rw [hL2 k,hm2 k];rfl
  refine ⟨_,_,rfl,fun _ w'=>St sn w'∧VA w' ob L.length 1 (ivs L),(c_num16 (hg.chg st8.1.c fun h=>h)).mono ?_,?_⟩
  ·rintro e w9 ⟨rfl,c9⟩
   have st9:=stN st8 c9
   refine ⟨_,rfl,(c_num16 (hg.chg st9.1.c fun h=>h)).mono ?_⟩
   rintro e w10 ⟨rfl,c10⟩
   exact ⟨_,rfl,Qaf (fun h=>by simp at h) fun _=>Qaf (fun h=>by rw [hm] at h;simp at h) fun _=>⟨stN st9 c10,(vL8.nob c9).nob c10⟩⟩
  rintro _ w11 ⟨st11,vL11⟩
  refine ⟨fun _ w'=>w'=w11∧dE tl N d=0∧sn d=false,Qan (fun ke=>skip st11 fun h=>absurd (dE_of hd2 h) ke) (fun ke=>Qb4 hd2 ?_),?_⟩
  ·rw [Nat.zero_add,Nat.mul_one]
   refine ldB_r (n:=sn d) st11.2.2.2.1 (bc_get hd2) (Qaf (fun h=>skip st11 fun _=>(hsn d).1 h) fun h=>⟨rfl,ke,h⟩)
  rintro _ w12 ⟨rfl,ke,hsd⟩
  have hor:=hL1 ke
  rw [Int.toNat_natCast] at hor
  obtain ⟨d',hd',hdl⟩:=dE_laid ke
  obtain rfl:d=d':=by omega
  have hlen:=hor.len hM.toND
  have hns:¬seen d d:=fun h=>by rw [(hsn d).2 h] at hsd;cases hsd
  have hmL:∀x∈L,x∈dl tl N∧x<2*N∧SF q d x∧sn x=false:=fun x hx=>by
   have h1:=hor.m x hx
   have h2:=(hor.sf cb (by omega)).1 hx
   refine ⟨h1,hM.lt x h1,h2,?_⟩
   cases h3:sn x with
   | false=>rfl
   | true=>
    exfalso
    obtain ⟨_,y,hy,hy2,hy3⟩:=(hsn x).1 h3
    exact hns ⟨hdl,y,hy,hy2,sf_trans cb.nd hy3 h2.symm⟩
  let J2:Nat→List Value→World→Prop:=fun j vs w'=>∃i:Nat,vs=[.int .i64 i]∧i≤L.length∧St (fun x=>sn x || decide (x∈L.take i)) w'∧VA w' ob L.length 1 (ivs L)∧j=L.length-i
  refine ⟨LI J2,LM J2,⟨_,0,rfl,by omega,by simpa using st11,vL11,rfl⟩,?_⟩
  intro _ i w13 hJ2
  obtain ⟨i,hvs,hi,st13,vL13,hj2⟩:=hJ2.at
  simp only [List.cons.injEq,Value.int.injEq,and_true,true_and] at hvs
  subst hvs
  refine Qaf (fun k2=>?_) (fun k2=>?_)<;>simp only [b1s] at k2
  ·have hiL:i<L.length:=by omega
   obtain ⟨x,hx⟩:∃x,L[i]?=some x:=⟨_,List.getElem?_eq_getElem hiL⟩
   obtain ⟨x1,x2,x3,x4⟩:=hmL x (List.mem_of_getElem? hx)
   refine rdI vL13 hx ((x_SameFace st13.1.a).mono ?_)
   rintro r w14 ⟨z,rfl,gs14,hz⟩
   have st14:=stG st13 gs14
   have vL14:=hob gs14 vL13
   have dx:=dE_of x2 x1
   have hz:=hz ke dx
   rw [Int.toNat_natCast,Int.toNat_natCast] at hz
   have hz:=hz.2 x3
   rw [if_pos ke]
   have hnt:x∉L.take i:=fun h=>by
    obtain ⟨j,hj2⟩:=List.getElem?_of_mem h
    have hj1:=(List.getElem?_eq_some_iff.1 hj2).1
    rw [List.length_take] at hj1
    rw [List.getElem?_take_of_lt (by omega)] at hj2
    have:=(List.getElem?_inj hiL hor.n (j:=j)).1 (by rw [hx,hj2])
    omega
   refine ⟨_,_,rfl,Qan (fun e=>absurd dx e) fun _=>Qaf (fun h=>by rw [hz] at h;cases h) fun _=>rdI vL14 hx (Qaf (fun h=>by simp only [b1s] at h;omega) fun _=>rdI vL14 hx (Qaf (fun h=>by simp only [b1s] at h;omega) fun _=>rdI vL14 hx (Qb4 x2 ?_)))⟩
   rw [Nat.zero_add,Nat.mul_one]
   refine ldB_r (n:=(sn x || decide (x∈L.take i))) st14.2.2.2.1 (bc_get x2) (Qaf (fun h=>?_) fun _=>rdI vL14 hx (Qb4 x2 ?_))
   ·exfalso
    rw [x4] at h
    simp at h;exact hnt h
   rw [Nat.zero_add,Nat.mul_one]
   refine Qb6 st14.2.2.2.1 (by rw [Qar _ bc_len];omega) rfl fun w15 c15 rC=>?_
   rw [bc_set x2] at rC
   rw [wrap64_in (x:=(i:Int)+1) (by omega) (by omega)]
   have s14:=st14.2.2.2.2
   refine LI.again (k:=L.length-(i+1)) ⟨i+1,rfl,by omega,⟨⟨st14.1.c.trans' c15 fun k e=>.inr (by omega),hlo,st14.1.a.keep c15 fun k e j=>by have:=hlow k j;omega⟩,c15.row (by omega) st14.2.1,st14.2.2.1.keep c15 fun g hg e j=>hvo g hg e (.inr (by omega)),?_,Nat.le_trans s14 c15.size⟩,vL14.keep c15 fun g hg e j=>oL g hg e (by have:=st.2.2.2.2;omega),rfl⟩ (by rw [hj2];omega)
   have e1:upd (fun x=>sn x || decide (x∈L.take i)) x true=fun x=>sn x || decide (x∈L.take (i+1)):=by
    funext y
    rw [List.take_add_one,hx]
    by_cases h:y=x
    ·subst h;rw [Qac];simp
    ·rw [Qak _ _ h];simp [h]
   rw [←e1];exact rC
  ·have:i=L.length:=by omega
   subst this
   rw [List.take_length] at st13
   have e1:cl (LK q fun _=>none) (·∈dl tl N) (d+1)=cl (LK q fun _=>none) (·∈dl tl N) d+1:=by
    rw [cl_succ,if_pos]
    rw [bl_iff]
    exact ⟨hdl,fun y hy h3 h4=>hns ⟨hdl,y,hy,h3,((cb.lk0 (by omega)).1 h4).symm⟩⟩
   have e2:=sm_list (n:=2*N) (s:=sn) hor.n fun x hx=>⟨(hmL x hx).2.1,(hmL x hx).2.2.2⟩
   rw [wrap64_in (x:=(d:Int)+1) (by omega) (by omega),wrap64_in (x:=((cl (LK q fun _=>none) (·∈dl tl N) d:Nat):Int)+1) (by omega) (by omega),wrap64_in (x:=al+(L.length:Nat)) (by omega) (by omega)]
   refine LI.again (k:=2*N-(d+1)) ⟨d+1,_,_,by rw [e1];rfl,by omega,st13,fun x=>?_,by rw [e2,←hal],rfl⟩ (by rw [hj];omega)
   rw [Bool.or_eq_true,decide_eq_true_iff,hsn x]
   constructor
   ·rintro (⟨h3,y,hy,h4⟩ | h)
    ·exact ⟨h3,y,by omega,h4⟩
    ·exact ⟨(hmL x h).1,d,by omega,hdl,(hmL x h).2.2.1⟩
   ·rintro ⟨h3,y,hy,h4,h5⟩
    by_cases e:y=d
    ·subst e;exact .inr ((hor.sf cb (by omega)).2 h5)
    ·exact .inl ⟨h3,y,by omega,h4,h5⟩
 ·have:d=2*N:=by omega
  subst this
  have hall:al=2*cE tl N:=by
   rw [hal]
   unfold cE
   rw [←sm_two (p:=fun x=>x∈dl tl N) (L:=fun e=>Laid tl N e) (fun e=>⟨Iff.rfl,fun h=>by have:=hM.laid h;rwa [show (2*e+1)/2=e by omega] at this,hM.odd⟩)]
   refine sm_congr fun i hi=>?_
   have:sn i=true↔i∈dl tl N:=by
    rw [hsn i]
    exact ⟨fun h=>h.1,fun h=>⟨h,i,hi,h,by obtain ⟨A,hA,k⟩:=cb.al i (by omega);exact ⟨A,hA,k,k⟩⟩⟩
   by_cases h:i∈dl tl N
   ·rw [if_pos (this.2 h),if_pos h]
   ·rw [if_neg (fun k=>h (this.1 k)),if_neg h]
  let J3:Nat→List Value→World→Prop:=fun j vs w'=>∃(v:Nat) (y:Int),vs=[.int .i64 ((cl (LK q fun _=>none) (·∈dl tl N) (2*N):Nat)+y),.int .i64 v]∧v≤N∧(0≤y∧y≤v)∧St sn w'∧y=sm (fun u=>if lv u=true∧tl u=[] then 1 else 0) v∧j=N-v
  refine ⟨LI J3,LM J3,⟨_,0,0,by rw [Int.add_zero];rfl,by omega,by omega,st,rfl,rfl⟩,?_⟩
  intro _ x v w7 hJ3
  obtain ⟨v,y,hvs,hv,hy,st7,ey,hj3⟩:=hJ3.at
  simp only [List.cons.injEq,Value.int.injEq,and_true,true_and] at hvs
  obtain ⟨rfl,rfl⟩:=hvs
  refine Qaf (fun k2=>?_) (fun k2=>?_)<;>simp only [b1s] at k2
  ·have hvN:v<N:=by omega
   have same:∀{w8:World},St sn w8→¬(lv v=true∧tl v=[])→LI J3 [.int .i64 ((cl (LK q fun _=>none) (·∈dl tl N) (2*N):Nat)+y),.int .i64 (IntKind.wrap .i64 ((v:Int)+1))] w8∧LM J3 [.int .i64 ((cl (LK q fun _=>none) (·∈dl tl N) (2*N):Nat)+y),.int .i64 (IntKind.wrap .i64 ((v:Int)+1))] w8<LM J3 [.int .i64 ((cl (LK q fun _=>none) (·∈dl tl N) (2*N):Nat)+y),.int .i64 v] w7:=fun {w8} h1 h2=>by
    rw [wrap64_in (x:=(v:Int)+1) (by omega) (by omega)]
    exact LI.again (k:=N-(v+1)) ⟨v+1,y,rfl,by omega,by omega,h1,by simp only [sm];rw [if_neg h2,←ey];omega,rfl⟩ (by rw [hj3];omega)
   rw [Qag]
   refine Qbc st7.2.1 rfl (st7.2.2.1.ix hvN fun g o e cs rg hbg hc=>ldB_r (n:=lv v) rg ?_ (Qaf (fun hlv=>?_) fun hlv=>same st7 fun h=>by rw [hlv] at h;exact absurd h.1 (by decide)))
   ·have:=hc 0 (by omega)
    rw [Nat.add_zero,Nat.mul_one,Nat.add_zero,bc_get hvN] at this
    exact this
   refine (x_DropVertex st7.1.a).mono ?_
   rintro r w8 ⟨rfl,d1,d2⟩
   have hvE:vE lv N v=0:=by unfold vE;rw [if_pos (by omega),Int.toNat_natCast,if_pos hlv]
   by_cases ht:tl v=[]
   ·have hdr:drE lv tl N v=0:=by unfold drE;rw [if_pos hvE,Int.toNat_natCast,if_pos ht]
    have gs8:=d2 hdr
    rw [hdr]
    rw [Int.toNat_natCast] at gs8
    refine ⟨_,rfl,err_j (fun _=>(x_AddVertex gs8.a).mono ?_) fun e=>absurd rfl e⟩
    rintro r w9 (⟨_,_,_,rfl,gs9⟩ | ⟨k,_⟩)
    ·rw [Int.toNat_natCast,upd_upd,←hlv,upd_self] at gs9
     have st9:=stG st7 (gs8.trans gs9)
     refine ⟨_,rfl,Qan (fun e=>absurd rfl e) fun _=>?_⟩
     rw [wrap64_in (x:=(v:Int)+1) (by omega) (by omega),wrap64_in (x:=((cl (LK q fun _=>none) (·∈dl tl N) (2*N):Nat):Int)+y+1) (by omega) (by omega),Int.add_assoc]
     exact LI.again (k:=N-(v+1)) ⟨v+1,y+1,rfl,by omega,by omega,st9,by simp only [sm];rw [if_pos ⟨hlv,ht⟩,←ey],rfl⟩ (by rw [hj3];omega)
    ·exact absurd ⟨by omega,by omega,by rw [Int.toNat_natCast,Qac]⟩ k
   ·have hdr:drE lv tl N v=14:=by unfold drE;rw [if_pos hvE,Int.toNat_natCast,if_neg ht]
    obtain rfl:=d1 (by rw [hdr];omega)
    rw [hdr]
    exact ⟨_,rfl,err_j (fun e=>absurd e (by decide)) fun _=>same st7 fun h=>ht h.2⟩
  ·have:v=N:=by omega
   subst this
   have b1:=cV_bd (lv:=lv) (N:=v)
   have b2:=cB_bd (B:=B) (N:=v)
   have b3:=cE_bd (tl:=tl) (N:=v)
   refine (c_Counts st7.1.a.toMR).mono ?_
   rintro r w8 ⟨rfl,c8⟩
   refine ⟨_,_,_,_,rfl,Qa4 fun A2 w9 hA2 c9 rA2=>?_⟩
   rw [Qag,Qag,Qag]
   refine Qb6 rA2 (by simp) rfl fun w10 c10 rA2=>Qb6 rA2 (by simp) rfl fun w11 c11 rA2=>Qb6 rA2 (by simp) rfl fun w12 c12 rA2=>Qb6 rA2 (by simp) rfl fun w13 c13 rA2=>?_
   have s8:=c8.size
   have c78:Chg Qab w7 w13:=(c8.trans c9).trans' (((c10.trans c11).trans c12).trans c13) fun i e=>.inr (by omega)
   refine Qaj (n:=2*(cV lv v-cB B v)-cV lv v+cE tl v) rA2 rfl (Qaf (fun _=>Qaj (n:=cE tl v) rA2 rfl ?_) fun h=>by simp at h;omega)
   rw [wrap64_in (x:=2*cE tl v) (by omega) (by omega)]
   refine Qaf (fun _=>c_sure16.mono ?_) fun h=>by simp at h;omega
   rintro r w14 ⟨rfl,c14⟩
   exact ⟨_,rfl,rfl,(st7.1.c.trans c78).trans c14⟩
end Core
end Go.Proofs.YtpmicakdjhoafaaGreatDoor
