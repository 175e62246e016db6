/-
The law CoreSums: counts and sums of a map grown by some acts.
Conditions: those that each theorem states.
-/
import Derived.Test.YtdamhidnlfjkdaaGreatDoorGLawC
namespace Go.Proofs.YtdamhidnlfjkdaaGreatDoor
open Go Go.RowKit
set_option linter.unusedVariables false
set_option linter.unusedSimpArgs false
namespace Core
open Go.Proofs.YtdamhidnlfjkdaaGreatDoor.Seq Go.Proofs.YtdamhidnlfjkdaaGreatDoor.Cut Go.Proofs.YtdamhidnlfjkdaaGreatDoor.Web
theorem c_CoreSums {w:World} {n:Int} {sb:Option Addr} {sl sc:Nat} {f:Nat→Nat→Int} (hg:LaidG w) (hf:AC w sb sl f) (hfw:∀i,i<sl→-2147483648≤f i 6∧f i 6≤2147483647) :
    Calls Pg fn_plaitlaw16_CoreSums #[.int .i64 n,.slice sb sl sc] w fun e w'=>e=.returned (.bool true)∧Chg Nobody w w':=by
  refine (calls_plaitlaw16_CoreSums _ _ _ _ _ (fun v' w'=>v'=.bool true∧Chg Nobody w w') ?_).mono (by rintro e w' ⟨v,rfl,rfl,k⟩;exact ⟨rfl,k⟩)
  unfold sh_plaitlaw16_CoreSums
  obtain ⟨N,hm0,hm1,he⟩:=size_ex n 1 9 (by omega) (by omega) (by omega)
  rw [he]
  refine ⟨by decide,(c_grown16 hg (by omega) (by omega) hf hfw).mono ?_⟩
  rintro r w2 ⟨b,lb,lc,tb,tc,wb,wc',lv,tl,q,B,D,ky,W,rfl,hL⟩
  refine ⟨_,_,_,_,_,_,_,_,_,_,_,_,rfl,alo_c fun A w3 hA c3 rA=>sts_r rA rfl (by simp [oneC]) fun w4 c4 rA=>bif_i (fun h=>by cases h) fun _=>?_⟩
  have c24:Chg Nobody w2 w4:=c3.trans' c4 fun i e=>.inr (by omega)
  have g:=(hL.a.nob c24).a
  have cw:=hL.c.trans c24
  clear rA c3 c4 hL c24
  let J:Nat→List Value→World→Prop:=fun j vs w'=>∃(k:Nat) (x y z:Int),vs=[.int .i64 x,.int .i64 y,.int .i64 z,.int .i64 k]∧k≤N∧w'=w4∧(0≤x∧x≤k)∧(0≤z∧z≤k)∧(-2147483648*k≤y∧y≤2147483648*k)∧
    x=sm (fun e=>if Laid tl N e then 1 else 0) k∧y=sm (fun e=>if (B e).isSome then ky e/1048576 else 0) k∧z=sm (fun e=>if (B e).isSome then 1 else 0) k∧j=N-k
  refine ⟨LI J,LM J,⟨_,0,0,0,0,rfl,by omega,rfl,by omega,by omega,by omega,rfl,rfl,rfl,rfl⟩,?_⟩
  intro _ x y z k w5 hJ
  obtain ⟨k,x,y,z,hvs,hk,rfl,hx,hz,hy,ex,ey,ez,hj⟩:=hJ.at
  simp only [List.cons.injEq,Value.int.injEq,and_true,true_and] at hvs
  obtain ⟨rfl,rfl,rfl,rfl⟩:=hvs
  refine bif_i (fun k1=>?_) (fun k1=>?_)<;>simp only [b1s] at k1
  · have hkN:k<N:=by omega
    refine (x_Marked g).mono ?_
    rintro r w6 ⟨rfl,mk,rfl,m1,m2⟩
    refine ⟨_,_,rfl,err_i (fun ke=>?_) (fun ke=>(x_Weight g).mono ?_)⟩
    · have hl:¬Laid tl N k:=fun j=>ke (eE_of hkN j)
      have hB:B k=none:=by
        cases hB:B k with
        | none=>rfl
        | some p=>exact absurd (g.cb.bB k p hB).1 hl
      rw [wrap64_in (x:=(k:Int)+1) (by omega) (by omega)]
      exact LI.again (k:=N-(k+1)) ⟨k+1,x,y,z,rfl,by omega,rfl,by omega,by omega,by omega,by simp only [sm];rw [if_neg hl,←ex];omega,by simp only [sm];rw [hB,←ey];simp,by simp only [sm];rw [hB,←ez];simp,rfl⟩ (by rw [hj];omega)
    · rintro r w7 ⟨rfl,wt,rfl,_,n2⟩
      have n2:=n2 ke
      have m2:=m2 ke
      rw [Int.toNat_natCast] at n2 m2
      have hkb:=g.kb k
      obtain ⟨k',hk',hl⟩:=eE_laid ke
      obtain rfl:k=k':=by omega
      refine ⟨_,_,rfl,err_i (fun e=>absurd ke e) (fun _=>bif_i (fun hmk=>?_) (fun hmk=>?_))⟩
      · rw [hmk] at m2
        rw [wrap64_in (x:=(k:Int)+1) (by omega) (by omega),wrap64_in (x:=x+1) (by omega) (by omega),wrap64_in (x:=z+1) (by omega) (by omega),wrap64_in (x:=wt) (by omega) (by omega),wrap64_in (x:=y+wt) (by omega) (by omega)]
        exact LI.again (k:=N-(k+1)) ⟨k+1,x+1,y+wt,z+1,rfl,by omega,rfl,by omega,by omega,by omega,by simp only [sm];rw [if_pos hl,←ex],by simp only [sm];rw [if_pos m2.symm,←ey,n2],by simp only [sm];rw [if_pos m2.symm,←ez],rfl⟩ (by rw [hj];omega)
      · rw [hmk] at m2
        rw [wrap64_in (x:=(k:Int)+1) (by omega) (by omega),wrap64_in (x:=x+1) (by omega) (by omega)]
        exact LI.again (k:=N-(k+1)) ⟨k+1,x+1,y,z,rfl,by omega,rfl,by omega,by omega,by omega,by simp only [sm];rw [if_pos hl,←ex],by simp only [sm];rw [←m2,←ey];simp,by simp only [sm];rw [←m2,←ez];simp,rfl⟩ (by rw [hj];omega)
  · obtain rfl:k=N:=by omega
    have b1:=cV_bd (lv:=lv) (N:=k)
    have b2:=cB_bd (B:=B) (N:=k)
    have b3:=cE_bd (tl:=tl) (N:=k)
    refine (c_Counts g.toMR).mono ?_
    rintro r w6 ⟨rfl,c6⟩
    refine ⟨_,_,_,_,rfl,alo_c fun A w7 hA c7 rA=>?_⟩
    rw [add_mk,add_mk,add_mk]
    refine sto_c rA (by simp) rfl fun w8 c8 rA=>sto_c rA (by simp) rfl fun w9 c9 rA=>sto_c rA (by simp) rfl fun w10 c10 rA=>sto_c rA (by simp) rfl fun w11 c11 rA=>?_
    have s7:=c6.size
    have c5:Chg Nobody w5 w11:=(c6.trans c7).trans' (((c8.trans c9).trans c10).trans c11) fun i e=>.inr (by omega)
    refine (x_Sum (g.nob c5).a).mono ?_
    rintro r w12 ⟨rfl,rfl⟩
    have e1:x=cE tl k:=ex
    have e2:y=sB B ky k:=ey
    have e3:z=cB B k:=ez
    subst e1 e2 e3
    refine ⟨_,rfl,bif_i (fun _=>ldI_r (n:=cV lv k) rA rfl (ldI_r (n:=cV lv k-cB B k) rA rfl ?_)) (fun h=>by simp at h)⟩
    rw [wrap64_in (x:=cV lv k-(cV lv k-cB B k)) (by omega) (by omega)]
    refine bif_i (fun _=>ldI_r (n:=cE tl k) rA rfl (bif_i (fun _=>?_) (fun h=>by simp at h))) (fun h=>by simp at h;omega)
    refine ldI_r (n:=cV lv k) rA rfl (ldI_r (n:=cE tl k) rA rfl (ldI_r (n:=2*(cV lv k-cB B k)-cV lv k+cE tl k) rA rfl (ldI_r (n:=cV lv k-cB B k) rA rfl ?_)))
    rw [wrap64_in (x:=cV lv k-cE tl k) (by omega) (by omega),wrap64_in (x:=cV lv k-cE tl k+(2*(cV lv k-cB B k)-cV lv k+cE tl k)) (by omega) (by omega),wrap64_in (x:=2*(cV lv k-cB B k)) (by omega) (by omega)]
    refine bif_i (fun _=>c_sure16.mono ?_) (fun h=>by simp at h;omega)
    rintro r w13 ⟨rfl,c13⟩
    exact ⟨_,rfl,rfl,(cw.trans c5).trans c13⟩
end Core
end Go.Proofs.YtdamhidnlfjkdaaGreatDoor
