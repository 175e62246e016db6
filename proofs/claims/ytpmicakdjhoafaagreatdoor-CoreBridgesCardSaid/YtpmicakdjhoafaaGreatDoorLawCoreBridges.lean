/-
The law CoreBridges: bridges taken away, one by one.
Conditions: those that each theorem states.
-/
import Derived.Test.YtpmicakdjhoafaaGreatDoorShPlaitlaw16CoreBridges
import Derived.Test.YtpmicakdjhoafaaGreatDoorGLawC
import Derived.Test.YtpmicakdjhoafaaGreatDoorGCoreE
set_option linter.unusedVariables false
set_option linter.unusedSimpArgs false
namespace Go.Proofs.YtpmicakdjhoafaaGreatDoor
open Go Go.RowKit
namespace Core
open Go.Proofs.YtpmicakdjhoafaaGreatDoor.Seq Go.Proofs.YtpmicakdjhoafaaGreatDoor.Cut Go.Proofs.YtpmicakdjhoafaaGreatDoor.Web
theorem c_CoreBridges {w:World} {n:Int} {sb:Option Addr} {sl sc:Nat} {f:Nat→Nat→Int} (hg:LaidG w) (hf:AC w sb sl f) (hfw:∀i,i<sl→-2147483648≤f i 6∧f i 6≤2147483647) :
  Calls Pg Qhk #[.int .i64 n,.slice sb sl sc] w fun e w'=>e=.returned (.bool true)∧Chg Qab w w':=by
 refine (calls_plaitlaw16_CoreBridges _ _ _ _ _ (fun v' w'=>v'=.bool true∧Chg Qab w w') ?_).mono (by rintro e w' ⟨v,rfl,rfl,k⟩;exact ⟨rfl,k⟩)
 unfold Qhi
 obtain ⟨N,hm0,hm1,he⟩:=size_ex n 1 9 (by omega) (by omega) (by omega)
 rw [he]
 refine ⟨by decide,(c_grown16 hg (by omega) (by omega) hf hfw).mono ?_⟩
 rintro r w2 ⟨b,lb,lc,tb,tc,wb,wc',lv,tl,q,B,D,ky,W,rfl,hL⟩
 refine ⟨_,_,_,_,_,_,_,_,_,_,_,_,rfl,Qa4 fun A w3 hA c3 rA=>sts_r rA rfl (by simp [oneC]) fun w4 c4 rA=>Qaf (fun h=>by cases h) fun _=>?_⟩
 have c24:Chg Qab w2 w4:=c3.trans' c4 fun i e=>.inr (by omega)
 have sv:SV w w4 b N lv tl q B D ky:=⟨hL.c.trans c24,hL.lo,(hL.a.nob c24).a⟩
 clear rA c3 c4 hL c24
 let J:Nat→List Value→World→Prop:=fun j vs w'=>∃(k:Nat) (tl:Nat→List Nat) (q:List (List Nat)) (B D:Nat→Option (Nat × Nat)) (ky:Nat→Int),vs=[.int .i64 k]∧k≤N∧SV w w' b N lv tl q B D ky∧(∀e,e<k→¬Laid tl N e)∧j=N-k
 refine ⟨LI J,LM J,⟨_,0,_,_,_,_,_,rfl,by omega,sv,fun e he=>by omega,rfl⟩,?_⟩
 clear sv
 intro _ k w5 hJ
 obtain ⟨k,tl,q,B,D,ky,hvs,hk,sv,hno,hj⟩:=hJ.at
 simp only [List.cons.injEq,Value.int.injEq,and_true,true_and] at hvs
 subst hvs
 refine Qaf (fun k1=>?_) (fun k1=>?_)<;>simp only [b1s] at k1
 ·have hkN:k<N:=by omega
  have again:∀{w6:World} {tl':Nat→List Nat} {q':List (List Nat)} {B' D':Nat→Option (Nat × Nat)} {ky':Nat→Int},SV w w6 b N lv tl' q' B' D' ky'→(∀e,e<k+1→¬Laid tl' N e)→LI J [.int .i64 (IntKind.wrap .i64 ((k:Int)+1))] w6∧LM J [.int .i64 (IntKind.wrap .i64 ((k:Int)+1))] w6<LM J [.int .i64 k] w5:=fun {w6 tl' q' B' D' ky'} k1 k2=>by
   rw [wrap64_in (x:=(k:Int)+1) (by omega) (by omega)]
   exact LI.again (k:=N-(k+1)) ⟨k+1,_,_,_,_,_,rfl,by omega,k1,k2,rfl⟩ (by rw [hj];omega)
  refine (x_Bridge sv.a).mono ?_
  rintro r w6 ⟨z,rfl,hz,gs⟩
  have sv:=sv.gs gs
  refine ⟨_,_,rfl,(x_Marked sv.a).mono ?_⟩
  rintro r w7 ⟨rfl,y,rfl,_,hy⟩
  refine ⟨_,_,rfl,fun _ w'=>w'=w7∧eE tl N k=0,Qan (fun ke=>?_) (fun ke=>Qan (fun e=>absurd ke e) fun _=>⟨rfl,ke⟩),?_⟩
  ·have hl:¬Laid tl N k:=fun j=>ke (eE_of hkN j)
   refine (c_num16 (hg.chg sv.c fun h=>h)).mono ?_
   rintro e w8 ⟨rfl,c8⟩
   refine ⟨_,rfl,(c_num16 (hg.chg (sv.nob c8).c fun h=>h)).mono ?_⟩
   rintro e w9 ⟨rfl,c9⟩
   refine ⟨_,rfl,Qaf (fun h=>by simp at h) fun _=>again ((sv.nob c8).nob c9) fun e he=>?_⟩
   by_cases h:e=k
   ·rw [h];exact hl
   ·exact hno e (by omega)
  rintro _ w8 ⟨rfl,ke⟩
  obtain ⟨k',hk',hl⟩:=eE_laid ke
  obtain rfl:k=k':=by omega
  have hz:=hz ke
  have hy:=hy ke
  rw [Int.toNat_natCast] at hz hy
  have hM:=sv.a.cb.mp
  rw [wrap64_in (x:=(2:Int)*k) (by omega) (by omega),wrap64_in (x:=(2:Int)*k+1) (by omega) (by omega),show ((2:Int)*k)=((2*k:Nat):Int) by omega,show (((2*k:Nat):Int)+1)=((2*k+1:Nat):Int) by omega]
  refine (x_Origin sv.a).mono ?_
  rintro r w9 ⟨u,rfl,hu,c9⟩
  have sv:=sv.nob c9
  refine ⟨_,_,rfl,(x_Origin sv.a).mono ?_⟩
  rintro r w10 ⟨v,rfl,hv,c10⟩
  have sv:=sv.nob c10
  have d1:=dE_of (N:=N) (d:=2*k) (by omega) hl
  have d2:=dE_of (N:=N) (d:=2*k+1) (by omega) (hM.odd hl)
  have hu:=hu d1
  have hv:=hv d2
  rw [d1,d2]
  rw [Int.toNat_natCast] at hu hv
  refine ⟨_,_,rfl,(c_Counts sv.a.toMR).mono ?_⟩
  rintro r w11 ⟨rfl,c11⟩
  refine ⟨_,_,_,_,rfl,Qa4 fun A w12 hA c12 rA=>?_⟩
  rw [Qag,Qag,Qag]
  refine Qb6 rA (by simp) rfl fun w13 c13 rA=>Qb6 rA (by simp) rfl fun w14 c14 rA=>Qb6 rA (by simp) rfl fun w15 c15 rA=>Qb6 rA (by simp) rfl fun w16 c16 rA=>?_
  have s11:=c11.size
  have c16:Chg Qab w10 w16:=(c11.trans c12).trans' (((c13.trans c14).trans c15).trans c16) fun i e=>.inr (by omega)
  have hlow:=sv.a.toMR.x.lowA
  have hAb:¬b.ch A:=fun k=>by have:=hlow A (Bk.sub k);omega
  have sv:=sv.nob c16
  clear c13 c14 c15
  refine ⟨fun _ w'=>∃q' B' D',SV w w' b N lv (lift tl N k) q' B' D' ky∧(z=true→cB B' N=cB B N-1)∧(z=false→cB B' N=cB B N)∧Row w'.heap A Qav [.int .i64 (cV lv N),.int .i64 (cE tl N),.int .i64 (2*(cV lv N-cB B N)-cV lv N+cE tl N),.int .i64 (cV lv N-cB B N)],Qan (fun e=>absurd rfl e) (fun _=>Qan (fun e=>absurd rfl e) fun _=>?_),?_⟩
  ·have part:Calls Pg Qbo #[.pointer (some ⟨b.M,0,none⟩),.int .i64 k] w16 fun r w17=>∃v,r=.returned v∧isI v∧bif (!(nilI v)) then (Value.bool false=.bool true∧Chg Qab w w17) else (∃q' B' D',SV w w17 b N lv (lift tl N k) q' B' D' ky∧(z=true→cB B' N=cB B N-1)∧(z=false→cB B' N=cB B N)∧Row w17.heap A Qav [.int .i64 (cV lv N),.int .i64 (cE tl N),.int .i64 (2*(cV lv N-cB B N)-cV lv N+cE tl N),.int .i64 (cV lv N-cB B N)]):=by
    refine (x_Part sv.a).mono ?_
    rintro r w17 ⟨rfl,_,kk⟩
    obtain ⟨q',B',D',gs,k3,k4⟩:=kk ke
    rw [Int.toNat_natCast] at gs k3 k4
    refine ⟨_,rfl,Qan (fun e=>absurd ke e) fun _=>⟨q',B',D',sv.gs gs,fun hz1=>k3 (hz.1 hz1),fun hz1=>k4 fun j=>(by rw [hz.2 j] at hz1;cases hz1),gs.c.row hAb rA⟩⟩
   refine Qaf (fun h1=>Qaf (fun h2=>?_) fun h2=>Qaf (fun h3=>Qaf (fun h4=>?_) fun _=>part) fun _=>part) (fun _=>Qaf (fun h3=>Qaf (fun h4=>?_) fun _=>part) fun _=>part)
   ·have:=sv.a.bridge hl (hz.1 h1)
    rw [←hy] at this
    rw [this] at h2;cases h2
   ·rw [hy] at h4
    obtain ⟨p,hp⟩:=Option.isSome_iff_exists.1 h4
    obtain ⟨_,rfl,hne⟩:=sv.a.cb.bB k p hp
    rw [hu,hv] at h3
    exact absurd (show og tl N (2*k)=og tl N (2*k+1) by
     have:((og tl N (2*k):Nat):Int)=(og tl N (2*k+1):Nat):=by simpa using h3
     omega) hne
   ·rw [hy] at h4
    obtain ⟨p,hp⟩:=Option.isSome_iff_exists.1 h4
    obtain ⟨_,rfl,hne⟩:=sv.a.cb.bB k p hp
    rw [hu,hv] at h3
    exact absurd (show og tl N (2*k)=og tl N (2*k+1) by
     have:((og tl N (2*k):Nat):Int)=(og tl N (2*k+1):Nat):=by simpa using h3
     omega) hne
  rintro _ w17 ⟨q',B',D',sv',z1,z2,rA⟩
  refine (c_Counts sv'.a.toMR).mono ?_
  rintro r w18 ⟨rfl,c18⟩
  have b1:=cV_bd (lv:=lv) (N:=N)
  have b2:=cB_bd (B:=B) (N:=N)
  have b3:=cB_bd (B:=B') (N:=N)
  have b4:=cE_bd (tl:=tl) (N:=N)
  refine ⟨_,_,_,_,rfl,Qa4 fun C w19 hC c19 rC=>?_⟩
  rw [Qag,Qag,Qag]
  refine Qb6 rC (by simp) rfl fun w20 c20 rC=>Qb6 rC (by simp) rfl fun w21 c21 rC=>Qb6 rC (by simp) rfl fun w22 c22 rC=>Qb6 rC (by simp) rfl fun w23 c23 rC=>?_
  have s18:=c18.size
  have lA:=rA.lt
  have c24:Chg Qab w17 w23:=(c18.trans c19).trans' (((c20.trans c21).trans c22).trans c23) fun i e=>.inr (by omega)
  have rA:=c24.row (fun h=>h) rA
  have eL:=cE_lift hM hl
  have fin:=again (sv'.nob c24) fun e he hl'=>by
   unfold Laid at hl'
   rw [(hM.liftM hl).2] at hl'
   exact hno e (by omega) hl'.2.2
  refine Qaj (n:=cV lv N-cB B' N) rC rfl (Qaj (n:=cV lv N-cB B N) rA rfl ?_)
  rw [wrap64_in (x:=cV lv N-cB B N+1) (by omega) (by omega)]
  refine Qaf (fun h=>?_) fun _=>Qaj (n:=cE (lift tl N k) N) rC rfl (Qaj (n:=cE tl N) rA rfl ?_)
  ·exfalso
   cases z
   ·have:=z2 rfl
    simp at h;omega
   ·have:=z1 rfl
    simp at h;omega
  rw [wrap64_in (x:=cE tl N-1) (by omega) (by omega)]
  refine Qaf (fun h=>by simp at h;omega) fun _=>Qaj (n:=cV lv N) rC rfl (Qaj (n:=cV lv N) rA rfl (Qaf (fun h=>by simp at h) fun _=>?_))
  refine Qaj (n:=cV lv N-cB B' N) rC rfl (Qaj (n:=cV lv N-cB B N) rA rfl (Qaf (fun h=>?_) fun _=>fin))
  refine Qaj (n:=cV lv N-cB B' N) rC rfl (Qaj (n:=cV lv N-cB B N) rA rfl ?_)
  rw [wrap64_in (x:=cV lv N-cB B N+1) (by omega) (by omega)]
  refine Qaf (fun h2=>?_) fun _=>fin
  exfalso
  cases z
  ·have:=z2 rfl
   simp at h h2;omega
  ·have:=z1 rfl
   simp at h h2;omega
 ·obtain rfl:k=N:=by omega
  have hB:∀e,B e=none:=fun e=>by
   cases hB:B e with
   | none=>rfl
   | some p=>
    have hl:=(sv.a.cb.bB e p hB).1
    exact absurd hl (hno e (sv.a.cb.mp.Qca hl))
  have e1:cE tl k=0:=sm_all fun e he=>if_neg (hno e he)
  have e2:sB B ky k=0:=sm_all fun e he=>by rw [hB e];rfl
  refine (c_Counts sv.a.toMR).mono ?_
  rintro r w6 ⟨rfl,c6⟩
  have sv:=sv.nob c6
  rw [e1]
  refine ⟨_,_,_,_,rfl,Qaf (fun _=>(x_Sum sv.a).mono ?_) fun h=>by cases h⟩
  rintro r w7 ⟨rfl,rfl⟩
  rw [e2]
  refine ⟨_,rfl,Qaf (fun _=>c_sure16.mono ?_) fun h=>by cases h⟩
  rintro r w13 ⟨rfl,c13⟩
  exact ⟨_,rfl,rfl,sv.c.trans c13⟩
end Core
end Go.Proofs.YtpmicakdjhoafaaGreatDoor
