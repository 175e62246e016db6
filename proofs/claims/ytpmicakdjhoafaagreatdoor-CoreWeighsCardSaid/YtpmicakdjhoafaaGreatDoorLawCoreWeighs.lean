/-
The law CoreWeighs: an edge made less, and greater, than all others.
Conditions: those that each theorem states.
-/
import Derived.Test.YtpmicakdjhoafaaGreatDoorShPlaitlaw16CoreWeighs
import Derived.Test.YtpmicakdjhoafaaGreatDoorGLawC
import Derived.Test.YtpmicakdjhoafaaGreatDoorGCoreE
set_option linter.unusedVariables false
set_option linter.unusedSimpArgs false
namespace Go.Proofs.YtpmicakdjhoafaaGreatDoor
open Go Go.RowKit
namespace Core
open Go.Proofs.YtpmicakdjhoafaaGreatDoor.Seq Go.Proofs.YtpmicakdjhoafaaGreatDoor.Cut Go.Proofs.YtpmicakdjhoafaaGreatDoor.Web
theorem c_CoreWeighs {w:World} {n:Int} {sb:Option Addr} {sl sc:Nat} {f:Nat→Nat→Int} (hg:LaidG w) (hf:AC w sb sl f) (hfw:∀i,i<sl→-2147483648≤f i 6∧f i 6≤2147483647) :
  Calls Pg Qh8 #[.int .i64 n,.slice sb sl sc] w fun e w'=>e=.returned (.bool true)∧Chg Qab w w':=by
 refine (calls_plaitlaw16_CoreWeighs _ _ _ _ _ (fun v' w'=>v'=.bool true∧Chg Qab w w') ?_).mono (by rintro e w' ⟨v,rfl,rfl,k⟩;exact ⟨rfl,k⟩)
 unfold Qh5
 obtain ⟨N,hm0,hm1,he⟩:=size_ex n 1 9 (by omega) (by omega) (by omega)
 rw [he]
 refine ⟨by decide,(c_grown16 hg (by omega) (by omega) hf hfw).mono ?_⟩
 rintro r w2 ⟨b,lb,lc,tb,tc,wb,wc',lv,tl,q,B,D,ky,W,rfl,hL⟩
 refine ⟨_,_,_,_,_,_,_,_,_,_,_,_,rfl,Qa4 fun A w3 hA c3 rA=>sts_r rA rfl (by simp [oneC]) fun w4 c4 rA=>Qaf (fun h=>by cases h) fun _=>?_⟩
 have c24:Chg Qab w2 w4:=c3.trans' c4 fun i e=>.inr (by omega)
 have sv:SV w w4 b N lv tl q B D ky:=⟨hL.c.trans c24,hL.lo,(hL.a.nob c24).a⟩
 clear rA c3 c4 hL c24
 let J:Nat→List Value→World→Prop:=fun j vs w'=>∃(k:Nat) (B D:Nat→Option (Nat × Nat)) (ky:Nat→Int),vs=[.int .i64 k]∧k≤N∧SV w w' b N lv tl q B D ky∧j=N-k
 refine ⟨LI J,LM J,⟨_,0,_,_,_,rfl,by omega,sv,rfl⟩,?_⟩
 clear sv
 intro _ k w5 hJ
 obtain ⟨k,B,D,ky,hvs,hk,sv,hj⟩:=hJ.at
 simp only [List.cons.injEq,Value.int.injEq,and_true,true_and] at hvs
 subst hvs
 refine Qaf (fun k1=>?_) (fun k1=>c_sure16.mono (by rintro r w13 ⟨rfl,c13⟩;exact ⟨_,rfl,rfl,sv.c.trans c13⟩))<;>simp only [b1s] at k1
 have hkN:k<N:=by omega
 have again:∀{w6:World} {B' D':Nat→Option (Nat × Nat)} {ky':Nat→Int},SV w w6 b N lv tl q B' D' ky'→LI J [.int .i64 (IntKind.wrap .i64 ((k:Int)+1))] w6∧LM J [.int .i64 (IntKind.wrap .i64 ((k:Int)+1))] w6<LM J [.int .i64 k] w5:=fun {w6 B' D' ky'} k1=>by
  rw [wrap64_in (x:=(k:Int)+1) (by omega) (by omega)]
  exact LI.again (k:=N-(k+1)) ⟨k+1,_,_,_,rfl,by omega,k1,rfl⟩ (by rw [hj];omega)
 refine (x_Has sv.a).mono ?_
 rintro r w6 ⟨rfl,rfl⟩
 refine ⟨_,rfl,Qaf (fun _=>again sv) fun ke=>?_⟩
 have ke:eE tl N k=0:=by simpa using ke
 obtain ⟨k',hk',hl⟩:=eE_laid ke
 obtain rfl:k=k':=by omega
 have hM:=sv.a.cb.mp
 refine (x_Weight sv.a).mono ?_
 rintro r w7 ⟨rfl,z,rfl,_,hz⟩
 have hz:=hz ke
 rw [Int.toNat_natCast] at hz
 rw [ke,wrap64_in (x:=(2:Int)*k) (by omega) (by omega),wrap64_in (x:=(2:Int)*k+1) (by omega) (by omega),show ((2:Int)*k)=((2*k:Nat):Int) by omega,show (((2*k:Nat):Int)+1)=((2*k+1:Nat):Int) by omega]
 refine ⟨_,_,rfl,(x_Origin sv.a).mono ?_⟩
 rintro r w9 ⟨u,rfl,hu,c9⟩
 have sv:=sv.nob c9
 refine ⟨_,_,rfl,(x_Origin sv.a).mono ?_⟩
 rintro r w10 ⟨v,rfl,hv,c10⟩
 have sv:=sv.nob c10
 have hu:=hu (dE_of (N:=N) (d:=2*k) (by omega) hl)
 have hv:=hv (dE_of (N:=N) (d:=2*k+1) (by omega) (hM.odd hl))
 rw [Int.toNat_natCast] at hu hv
 refine ⟨_,_,rfl,Qan (fun e=>absurd rfl e) fun _=>?_⟩
 let J2:Nat→List Value→World→Prop:=fun j vs w'=>∃(i:Nat) (al:Bool),vs=[.bool al,.int .i64 i]∧i≤N∧w'=w10∧(al=true→∀e,e<i→Laid tl N e→e≠k→-2147483648<ky e/1048576∧ky e/1048576<2147483647)∧j=N-i
 refine ⟨LI J2,LM J2,⟨_,0,true,rfl,by omega,rfl,fun _ e he=>by omega,rfl⟩,?_⟩
 intro _ al i w11 hJ2
 obtain ⟨i,al,hvs,hi,rfl,hal,hj2⟩:=hJ2.at
 simp only [List.cons.injEq,Value.int.injEq,Value.bool.injEq,and_true,true_and] at hvs
 obtain ⟨rfl,rfl⟩:=hvs
 refine Qaf (fun k2=>?_) (fun k2=>?_)<;>simp only [b1s] at k2
 ·have more:∀{al':Bool},(al'=true→∀e,e<i+1→Laid tl N e→e≠k→-2147483648<ky e/1048576∧ky e/1048576<2147483647)→LI J2 [.bool al',.int .i64 (IntKind.wrap .i64 ((i:Int)+1))] w11∧LM J2 [.bool al',.int .i64 (IntKind.wrap .i64 ((i:Int)+1))] w11<LM J2 [.bool al,.int .i64 i] w11:=fun {al'} k1=>by
   rw [wrap64_in (x:=(i:Int)+1) (by omega) (by omega)]
   exact LI.again (k:=N-(i+1)) ⟨i+1,al',rfl,by omega,rfl,k1,rfl⟩ (by rw [hj2];omega)
  have step:al=true→∀{al':Bool},(al'=true→Laid tl N i→i≠k→-2147483648<ky i/1048576∧ky i/1048576<2147483647)→(al'=true→∀e,e<i+1→Laid tl N e→e≠k→-2147483648<ky e/1048576∧ky e/1048576<2147483647):=fun h1 {al'} h2 h3 e he hle hek=>by
   by_cases h:e=i
   ·subst h;exact h2 h3 hle hek
   ·exact hal h1 e (by omega) hle hek
  refine (x_Weight sv.a).mono ?_
  rintro r w12 ⟨rfl,y,rfl,_,hy⟩
  refine ⟨_,_,rfl,Qaf (fun h1=>Qan (fun ie=>more (step h1 fun _ hli=>absurd (eE_of (by omega) hli) ie)) fun ie=>Qaf (fun h2=>more (step h1 fun _ _ hne=>absurd (by simpa using h2) (fun j:(i:Int)=k=>hne (by omega)))) fun _=>?_) fun _=>more fun h=>by cases h⟩
  have hy:=hy ie
  rw [Int.toNat_natCast] at hy
  refine Qaf (fun h3=>more (step h1 fun h4 _ _=>?_)) fun _=>more fun h=>by cases h
  have h3:=of_decide_eq_true h3
  have h4:=of_decide_eq_true h4
  omega
 have:i=N:=by omega
 subst this
 refine Qaf (fun _=>again sv) fun h1=>?_
 have h1:al=true:=by simpa using h1
 have hal:=hal h1
 have hlow:∀e,Laid tl i e→e≠k→-2147483648<ky e/1048576∧ky e/1048576<2147483647:=fun e he=>hal e (hM.Qca he) he
 refine (x_Weigh sv.a (z:=-2147483648) (by omega)).mono ?_
 rintro r w12 ⟨rfl,_,kk⟩
 obtain ⟨B1,D1,gs⟩:=kk ke
 have sv1:=sv.gs gs
 rw [Int.toNat_natCast] at sv1
 refine ⟨_,rfl,Qan (fun e=>absurd ke e) fun _=>(x_Marked sv1.a).mono ?_⟩
 rintro r w13 ⟨rfl,y,rfl,_,hy⟩
 have hy:=hy ke
 rw [Int.toNat_natCast] at hy
 refine ⟨_,_,rfl,fun _ w'=>∃B' D',SV w w' b i lv tl q B' D' (upd ky k (2147483647*1048576+k)),Qan (fun e=>absurd ke e) (fun _=>Qaf (fun h2=>?_) fun _=>(x_Weigh sv1.a (z:=2147483647) (by omega)).mono ?_),?_⟩
 ·exfalso
  have:=sv1.a.least hl fun e he hek=>by
   rw [Qac,Qak _ _ hek]
   have:=hlow e he hek
   omega
  rw [←hy] at this
  rw [hu,hv] at h2
  cases y
  ·simp at h2 this;omega
  ·simp at h2 this;omega
 ·rintro r w14 ⟨rfl,_,kk⟩
  obtain ⟨B2,D2,gs2⟩:=kk ke
  have sv2:=sv1.gs gs2
  rw [Int.toNat_natCast,upd_upd] at sv2
  exact ⟨_,rfl,Qan (fun e=>absurd ke e) fun _=>⟨_,_,sv2⟩⟩
 rintro _ w14 ⟨B2,D2,sv2⟩
 refine (x_Marked sv2.a).mono ?_
 rintro r w15 ⟨rfl,y,rfl,_,hy⟩
 have hy:=hy ke
 rw [Int.toNat_natCast] at hy
 refine ⟨_,_,rfl,(x_Bridge sv2.a).mono ?_⟩
 rintro r w16 ⟨x,rfl,hx,gs3⟩
 have hx:=hx ke
 rw [Int.toNat_natCast] at hx
 have sv3:=sv2.gs gs3
 refine ⟨_,_,rfl,Qan (fun e=>absurd ke e) fun _=>Qan (fun e=>absurd ke e) fun _=>Qaf (fun h2=>?_) fun _=>(x_Weigh sv3.a (z:=z) ?_).mono ?_⟩
 ·exfalso
  have:=sv2.a.most hl fun e he hek=>by
   rw [Qac,Qak _ _ hek]
   have:=hlow e he hek
   omega
  rw [←hy,←hx] at this
  have:y=x:=by rw [Bool.eq_iff_iff];exact this
  subst this
  simp at h2
 ·have:=sv.a.kb k
  omega
 rintro r w17 ⟨rfl,_,kk⟩
 obtain ⟨B3,D3,gs4⟩:=kk ke
 exact ⟨_,rfl,Qan (fun e=>absurd ke e) fun _=>again (sv3.gs gs4)⟩
end Core
end Go.Proofs.YtpmicakdjhoafaaGreatDoor
