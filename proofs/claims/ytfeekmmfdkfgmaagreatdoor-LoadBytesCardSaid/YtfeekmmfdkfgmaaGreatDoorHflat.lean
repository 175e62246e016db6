import Derived.Test.YtfeekmmfdkfgmaaGreatDoorHplane
import Derived.Test.YtfeekmmfdkfgmaaGreatDoorHslots
import Derived.Test.YtfeekmmfdkfgmaaGreatDoorCoreT
import Derived.Test.YtfeekmmfdkfgmaaGreatDoorGCoreE
import Derived.Tactics
import Derived.Tactics2
import Derived.StillTactics
import Derived.Laws.NewBlocks
import Derived.Laws.Unary
import Derived.Laws.Closers25
import Derived.Laws.Cells
import Derived.Laws.NewDeep
import Derived.Laws.Pointers
import Derived.Laws.StructEq
import Derived.Laws.Closers25b
import Derived.Laws.ByValue
import Derived.Laws.Build
import Derived.Laws.ResultCell
import Derived.Laws.Entries
import Derived.Laws.World
import Derived.Laws.Sem
import Derived.Laws.Small
import Derived.Scope
import Derived.FnLit
import Derived.LoopTactic
import Derived.LoopN
/-
Faces walked round, and all of them (layer 11's program).
Conditions: those that each theorem states.
-/
set_option linter.unusedVariables false
set_option linter.unusedSimpArgs false
namespace Go.Proofs.YtfeekmmfdkfgmaaGreatDoor
open Go Go.RowKit
set_option linter.unnecessarySimpa false
namespace Core
set_option linter.ambiguousOpen false
open Seq Cut Web
section
variable {w w':World} {T TD TL TM V E N d:Nat} {tl:Nat→List Nat} {L:List Nat}
theorem Zg0 (h:TV w.heap T TD TL TM V E N tl) (hM:MP N tl) (hd:d∈dl tl N):Calls Pg 261 #[.pointer (some ⟨T,0,none⟩),.int .i64 (d:Nat)] w fun r w'=>r=.returned (.tuple #[.int .i64 (ph tl N d:Nat),errV 0])∧Chg Qaa w w':=by
 refine (Qt3 _ _).go ?_
 unfold Qsm nr
 have hvb:=h.vb
 have hlt:=hvb.lt _ hd
 have he:=hvb.e1
 have hn:=hvb.n1
 refine (Qw5 h hlt).mono ?_
 rintro r w4 ⟨rfl,c1⟩
 rw [if_pos hd,xor1 (by omega)]
 refine ⟨_,_,rfl,Qaj (fun e=>absurd rfl e) (fun _=>(Zkf (h.nob c1) (hM.tw d hd)).mono ?_)⟩
 rintro r w8 ⟨rfl,c2⟩
 exact ⟨_,_,rfl,by rw [hM.phE hd],c1.trans c2⟩
theorem Zb5 (h:TV w.heap T TD TL TM V E N tl) (hdE:d<2*E) (hd:d∉dl tl N):Calls Pg 261 #[.pointer (some ⟨T,0,none⟩),.int .i64 (d:Nat)] w fun r w'=>r=.returned (.tuple #[.int .i64 0,errV 13])∧Chg Qaa w w':=by
 refine (Qt3 _ _).go ?_
 unfold Qsm nr
 refine (Qw5 h hdE).mono ?_
 rintro r w4 ⟨rfl,c1⟩
 rw [if_neg hd]
 exact ⟨_,_,rfl,Qaj (fun _=>⟨rfl,c1⟩) (fun e=>absurd e (by decide))⟩
theorem Zb4 (h:TV w.heap T TD TL TM V E N tl) (hdE:d<2*E) (hd:d∉dl tl N):Calls Pg 217 #[.pointer (some ⟨T,0,none⟩),.int .i64 (d:Nat)] w fun r w'=>r=.returned (.tuple #[.slice none 0 0,errV 13])∧Chg Qaa w w':=by
 refine (Qt2 _ _).go ?_
 unfold Qsl nr
 refine (Zb5 h hdE hd).mono ?_
 rintro r w4 ⟨rfl,c1⟩
 exact ⟨_,_,rfl,Qaj (fun _=>⟨rfl,c1⟩) (fun e=>absurd e (by decide))⟩
theorem Zl2 (h:TV w.heap T TD TL TM V E N tl) (hM:MP N tl) (ho:Orb tl N d L):Calls Pg 217 #[.pointer (some ⟨T,0,none⟩),.int .i64 (d:Nat)] w fun r w'=>∃b c,r=.returned (.tuple #[.slice b L.length c,errV 0])∧Chg Qaa w w'∧Own w' w.heap.size 3 1 b L.length c (ivs L):=by
 refine (Qt2 _ _).go ?_
 unfold Qsl nr
 have hn:=h.vb.n1
 have hlen:=ho.len hM.toND
 obtain ⟨R,rfl⟩:∃R,L=d::R:=by
  have:=ho.h
  cases L with
  | nil=>cases this
  | cons a R=>cases this;exact ⟨R,rfl⟩
 have hd:d∈dl tl N:=ho.m d (by simp)
 refine (Zg0 h hM hd).mono ?_
 rintro r w4 ⟨rfl,c1⟩
 refine ⟨_,_,rfl,Qaj (fun e=>absurd rfl e) (fun _=>Qak fun A w5 hA c2 r2=>?_)⟩
 have s1:=c1.size
 have s2:=c2.size
 let J:Nat→List Value→World→Prop:=fun j vs w'=>∃(i x:Nat) (b:Option Addr) (c:Nat),vs=[.slice b (i+1) c,.int .i64 (ph tl N x:Nat)]∧(d::R)[i]?=some x∧Chg (fun k=>w4.heap.size≤k) w5 w'∧Own w' w4.heap.size 3 1 b (i+1) c (ivs ((d::R).take (i+1)))∧j=2*N-i
 refine ⟨LI J,LM J,⟨_,0,d,_,_,rfl,rfl,Chg.refl _ _,Q39 r2 hA,rfl⟩,?_⟩
 intro _ sb sl sc n11 w6 hJ
 obtain ⟨i,x,b,c,hvs,hx,ck,ow,hj⟩:=hJ.at
 simp only [vk] at hvs
 obtain ⟨⟨rfl,rfl,rfl⟩,rfl⟩:=hvs
 have hi:=(List.getElem?_eq_some_iff.1 hx).1
 have cw:Chg Qaa w w6:=(c1.trans c2).trans' ck fun k e=>.inr (by omega)
 have s6:=cw.size
 have s46:=ck.size
 refine Qac (fun hc=>?_) (fun hc=>?_)<;>simp only [b1s] at hc
 ·have hmore:i+1<(d::R).length:=by
   rcases Nat.lt_or_ge (i+1) (d::R).length with k | k
   ·exact k
   ·refine absurd ?_ hc
    have hl:(d::R).getLast?=some x:=by
     rw [List.getLast?_eq_getElem?,show (d::R).length-1=i by omega];exact hx
    rw [ho.c x d (.inr ⟨hl,rfl⟩)]
  obtain ⟨y,hy⟩:∃y,(d::R)[i+1]?=some y:=⟨_,List.getElem?_eq_getElem hmore⟩
  have e1:=ho.c x y (.inl (Q6g hx hy))
  rw [e1]
  refine Qak fun A3 w7 hA3 c7 r7=>?_
  have o7:=ow.chg c7 fun _ _ _ h=>h
  have s7:=c7.size
  obtain ⟨b8,c8',w8,g8,o8,c8,_⟩:=Qb0 (sc:=1) Qdv o7 (ty:=58) (VA.Qgm (l:=1) (sz:=1) r7 rfl) (by simp [oneC]) (by omega) (by omega) (by omega) (by omega)
  have s8:=c8.size
  have c58:Chg (fun k=>w4.heap.size≤k) w5 w8:=(ck.trans c7.weak).trans (c8.mono fun k _ e=>(o7.Qar e).1)
  refine ⟨_,_,_,_,g8,(Zg0 (h.nob ((c1.trans c2).trans' c58 fun k e=>.inr (by omega))) hM (ho.m y (List.mem_of_getElem? hy))).mono ?_⟩
  rintro r w9 ⟨rfl,c9⟩
  refine ⟨_,_,rfl,Qaj (fun e=>absurd rfl e) (fun _=>LI.again (k:=2*N-(i+1)) ⟨i+1,y,_,_,rfl,hy,c58.trans c9.weak,?_,rfl⟩ (by rw [←e1,hj];omega))⟩
  have:ivs ((d::R).take (i+1+1))=ivs ((d::R).take (i+1))++[.int .i64 (y:Int)]:=by
   rw [List.take_add_one,hy];simp [ivs]
  rw [this]
  exact o8.chg c9 fun _ _ _ h=>h
 ·have hfull:i+1=(d::R).length:=by
   rcases Nat.lt_or_ge (i+1) (d::R).length with k | k
   ·obtain ⟨y,hy⟩:∃y,(d::R)[i+1]?=some y:=⟨_,List.getElem?_eq_getElem k⟩
    have e1:=ho.c x y (.inl (Q6g hx hy))
    have:y=d:=by omega
    subst this
    have h0:(y::R)[0]?=some y:=rfl
    have:=(List.getElem?_inj k ho.n).1 (hy.trans h0.symm)
    omega
   ·omega
  rw [List.take_of_length_le (by omega),hfull] at ow
  rw [hfull]
  exact ⟨_,_,rfl,cw,ow.mono s1⟩
theorem Zl3 (h:TV w.heap T TD TL TM V E N tl) (hM:MP N tl):Calls Pg 149 #[.pointer (some ⟨T,0,none⟩)] w fun r w'=>∃b l c X,r=.returned (.slice b l c)∧Chg Qaa w w'∧TF w' (fun k=>k<w.heap.size) b l X∧l≤2*N∧Fcs tl N l X∧∀j,j<l→∃d,d∈X j∧(X j).head?=some d:=by
 refine (Q2n _).go ?_
 unfold Q07 nr
 have hvb:=h.vb
 have he:=hvb.e1
 have hn:=hvb.n1
 refine (Q5z h).mono ?_
 rintro r w3 ⟨rfl,c1⟩
 refine ⟨_,_,rfl,?_⟩
 rw [wrap64_in (by omega) (by omega),show (2:Int)*(E:Nat)=((2*E:Nat):Int) by omega,show Int.toNat ((2*E:Nat):Int)=2*E from rfl]
 refine ⟨by omega,Int.le_refl _,by omega,Qak fun A w6 hA c2 r2=>?_⟩
 have r2':Row w6.heap A 4 (recs (bc fun _=>false) (2*E)):=by
  rw [Qas] at r2;exact r2
 have c12:=c1.trans c2
 have s1:=c1.size
 have s2:=c2.size
 have hA2:=r2'.lt
 let J:Nat→List Value→World→Prop:=fun j vs w'=>∃(i l c:Nat) (b:Option Addr) (X:Nat→List Nat) (sn:Nat→Bool),vs=[.slice b l c,.int .i64 i]∧i≤2*E∧Chg (fun k=>k=A) w6 w'∧Row w'.heap A 4 (recs (bc sn) (2*E))∧GL w' w6.heap.size (fun k=>k<w6.heap.size) b l c X∧
  (∀j,j<l→∃d,Orb tl N d (X j))∧(∀x,sn x=true↔∃j,j<l∧x∈X j)∧(∀x,x<i→x∈dl tl N→sn x=true)∧(∀i j x,i<l→j<l→x∈X i→x∈X j→i=j)∧l≤i∧j=2*E-i
 refine ⟨LI J,LM J,⟨_,0,0,0,none,fun _=>[],fun _=>false,rfl,by omega,Chg.refl _ _,r2',GL.nil,fun j h=>absurd h (Nat.not_lt_zero _),fun x=>⟨fun h=>(by cases h),fun ⟨j,h,_⟩=>absurd h (Nat.not_lt_zero _)⟩,fun x h=>absurd h (Nat.not_lt_zero _),fun i j x h=>absurd h (Nat.not_lt_zero _),by omega,rfl⟩,?_⟩
 intro _ sb sl sc n10 w7 hJ
 obtain ⟨i,l,c,b,X,sn,hvs,hi,ck,rk,gl,hO,hS,hP,hU,hli,hj⟩:=hJ.at
 simp only [vk] at hvs
 obtain ⟨⟨rfl,rfl,rfl⟩,rfl⟩:=hvs
 have cw:Chg Qaa w w7:=c12.trans' ck fun k e=>.inr (by omega)
 have s7:=ck.size
 refine Qac (fun hlt=>?_) (fun hlt=>?_)<;>simp only [b1s] at hlt
 ·have hiE:i<2*E:=by omega
  rw [wrap64_in (by omega) (by omega)]
  refine Qat (by omega) (Qqt (n:=sn i) rk (by rw [Nat.zero_add,Nat.mul_one];exact Qj0 hiE) (Qac (fun hs=>?_) (fun hs=>?_)))
  ·refine LI.again (k:=2*E-(i+1)) ⟨i+1,sl,sc,sb,X,sn,rfl,by omega,ck,rk,gl,hO,hS,fun x hx hd=>?_,hU,by omega,rfl⟩ (by rw [hj];omega)
   rcases Nat.lt_or_ge x i with k | k
   ·exact hP x k hd
   ·obtain rfl:x=i:=by omega
    exact hs
  ·by_cases hid:i∈dl tl N
   ·obtain ⟨L,ho⟩:=Zf6 hM hid
    refine (Zl2 (h.nob cw) hM ho).mono ?_
    rintro r w8 ⟨b5,c5,rfl,c8,o8⟩
    have s8:=c8.size
    have hlen:=ho.len hM.toND
    refine ⟨_,_,_,_,rfl,Qaj (fun e=>absurd rfl e) (fun _=>?_)⟩
    have rk8:=c8.row (fun h=>h) rk
    have hdis:∀j,j<sl→∀x,x∈X j→x∉L:=fun j hj x hx hxL=>by
     obtain ⟨d',o'⟩:=hO j hj
     have h1:=(ho.Qkk hxL).1 (List.mem_of_mem_head? ho.h)
     have h2:=(o'.Qkk hx).2 h1
     have:=(hS i).2 ⟨j,hj,h2⟩
     rw [hs] at this;cases this
    let J2:Nat→List Value→World→Prop:=fun j vs w'=>∃(k:Nat),vs=[.int .i64 k]∧k≤L.length∧Chg (fun k=>k=A) w8 w'∧Row w'.heap A 4 (recs (bc fun x=>sn x || decide (x∈L.take k)) (2*E))∧j=L.length-k
    refine ⟨LI J2,LM J2,⟨_,0,rfl,by omega,Chg.refl _ _,by simpa using rk8,rfl⟩,?_⟩
    intro _ n20 w9 hJ2
    obtain ⟨k,hvs,hk,ck2,rk2,hj2⟩:=hJ2.at
    simp only [vj] at hvs
    subst hvs
    have o9:Own w9 w7.heap.size 3 1 b5 L.length c5 (ivs L):=o8.chg ck2 fun g hg _ e=>by omega
    refine Qac (fun hlt2=>?_) (fun hlt2=>?_)<;>simp only [b1s] at hlt2
    ·have hkL:k<L.length:=by omega
     obtain ⟨y,hy⟩:∃y,L[k]?=some y:=⟨_,List.getElem?_eq_getElem hkL⟩
     have hyE:=hvb.lt y (ho.m y (List.mem_of_getElem? hy))
     refine rdI (VA.Qa6 o9) hy (Qat (by omega) ?_)
     rw [Nat.zero_add,Nat.mul_one,wrap64_in (by omega) (by omega)]
     refine Qao rk2 (by rw [Qah (sz:=1) _ (fun _=>rfl)];omega) rfl fun w10 c10 r10=>?_
     rw [Qz5 hyE] at r10
     refine LI.again (k:=L.length-(k+1)) ⟨k+1,rfl,by omega,ck2.trans c10,?_,rfl⟩ (by rw [hj2];omega)
     refine (Qbb fun j _=>?_) ▸ r10
     have et:L.take (k+1)=L.take k++[y]:=by rw [List.take_add_one,hy];rfl
     unfold bc
     congr 2
     unfold upd
     rw [et]
     by_cases e:j=y
     ·subst e;simp
     ·rw [if_neg e]
      simp only [List.mem_append,List.mem_singleton,e,or_false]
    ·obtain rfl:k=L.length:=by omega
     rw [List.take_length] at rk2
     refine Qak fun A3 w10 hA3 c10 r10=>?_
     have c7_10:Chg (fun k=>k=A) w7 w10:=(c8.weak.trans ck2).trans c10.weak
     have gl10:=gl.keep c7_10 (fun g e=>by subst e;exact hA2) fun g hg e=>by have:=(gl.Qar hg).1;omega
     have o10:=o9.chg c10 fun _ _ _ h=>h
     obtain ⟨b',c',w11,hrun,gl11,c11,hb11⟩:=gl10.push (L:=L) r10 ⟨_,_,rfl,VA.Qa6 o10,fun g _ hg k=>by
      have h1:=(o10.Qar hg).1
      rcases k with k | k
      ·omega
      ·have:=(gl.Qar k).2;omega,o10.cap.1⟩ (by have:=c7_10.size;omega) (by omega)
     refine ⟨_,_,_,_,hrun,?_⟩
     have c6_11:Chg (fun k=>k=A) w6 w11:=(ck.trans c7_10).trans' c11 fun k e=>.inr (gl10.Qar e).1
     have rk11:=c11.row (fun e=>by have:=(gl10.Qar e).1;omega) (c10.row (fun h=>h) rk2)
     refine LI.again (k:=2*E-(i+1)) ⟨i+1,sl+1,c',b',upd X sl L,fun x=>sn x || decide (x∈L),rfl,by omega,c6_11,rk11,gl11,fun j hj=>?_,fun x=>?_,fun x hx hd=>?_,fun a c x ha hc hxa hxc=>?_,by omega,rfl⟩ (by rw [hj];omega)
     ·by_cases e:j=sl
      ·rw [e,Qab];exact ⟨i,ho⟩
      ·rw [Qag _ _ e];exact hO j (by omega)
     ·simp only [Bool.or_eq_true,decide_eq_true_eq,hS]
      constructor
      ·rintro (⟨j,h1,h2⟩ | h1)
       ·exact ⟨j,by omega,by rw [Qag _ _ (by omega)];exact h2⟩
       ·exact ⟨sl,by omega,by rw [Qab];exact h1⟩
      ·rintro ⟨j,h1,h2⟩
       by_cases e:j=sl
       ·rw [e,Qab] at h2;exact .inr h2
       ·rw [Qag _ _ e] at h2;exact .inl ⟨j,by omega,h2⟩
     ·rcases Nat.lt_or_ge x i with k | k
      ·simp [hP x k hd]
      ·obtain rfl:x=i:=by omega
       simp [List.mem_of_mem_head? ho.h]
     ·by_cases e1:a=sl<;>by_cases e2:c=sl
      ·omega
      ·rw [e1,Qab] at hxa;rw [Qag _ _ e2] at hxc
       exact absurd hxa (hdis c (by omega) x hxc)
      ·rw [e2,Qab] at hxc;rw [Qag _ _ e1] at hxa
       exact absurd hxc (hdis a (by omega) x hxa)
      ·rw [Qag _ _ e1] at hxa;rw [Qag _ _ e2] at hxc
       exact hU a c x (by omega) (by omega) hxa hxc
   ·refine (Zb4 (h.nob cw) hiE hid).mono ?_
    rintro r w8 ⟨rfl,c8⟩
    refine ⟨_,_,_,_,rfl,Qaj (fun _=>?_) (fun e=>absurd e (by decide))⟩
    refine LI.again (k:=2*E-(i+1)) ⟨i+1,sl,sc,sb,X,sn,rfl,by omega,ck.trans c8.weak,c8.row (fun h=>h) rk,gl.nob c8,hO,hS,fun x hx hd=>?_,hU,by omega,rfl⟩ (by rw [hj];omega)
    rcases Nat.lt_or_ge x i with k | k
    ·exact hP x k hd
    ·obtain rfl:x=i:=by omega
     exact absurd hd hid
 ·obtain rfl:i=2*E:=by omega
  refine ⟨_,_,_,X,rfl,cw,(gl.tf fun g hg k=>?_).weak fun k hk=>?_,by omega,⟨hO,fun x hx=>(hS x).1 (hP x (hvb.lt x hx) hx),hU⟩,fun j hj=>?_⟩
  ·have:=(gl.Qar hg).1;omega
  ·show k<w6.heap.size
   have:k<w.heap.size:=hk
   omega
  ·obtain ⟨d,o⟩:=hO j hj
   exact ⟨d,List.mem_of_mem_head? o.h,o.h⟩
end
structure UF (n:Nat) (ab ls:Nat→Int) (P:Nat→Nat→Prop) (rt dp:Nat→Nat):Prop where
 up:∀x,x<n→∃p,p<n∧ab x=(p:Nat)∧rt p=rt x∧(p=x↔rt x=x)∧(p≠x→dp p<dp x)
 rl:∀x,x<n→rt x<n∧rt (rt x)=rt x
 lm:∀x,x<n→rt x=x→∃m,m<n∧ls x=(m:Nat)∧rt m=x∧∀y,y<n→rt y=x→m≤y
 eq:∀x y,x<n→y<n→(rt x=rt y↔P x y)
section
variable {n x y:Nat} {ab ls:Nat→Int} {P P':Nat→Nat→Prop} {rt dp:Nat→Nat}
theorem UF.one (hP:∀x y,P x y↔x=y):UF n (fun x=>(x:Nat)) (fun x=>(x:Nat)) P id (fun _=>0):=
 ⟨fun x hx=>⟨x,hx,rfl,rfl,⟨fun _=>rfl,fun _=>rfl⟩,fun h=>absurd rfl h⟩,fun x hx=>⟨hx,rfl⟩,fun x hx _=>⟨x,hx,rfl,rfl,fun y _ h=>Nat.le_of_eq h.symm⟩,fun x y _ _=>(hP x y).symm⟩
theorem UF.join (h:UF n ab ls P rt dp) (hx:x<n) (hy:y<n) (rx:rt x=x) (ry:rt y=y) (hxy:x≠y) (hP:∀u v,u<n→v<n→(P' u v↔P u v∨(P u x∧P y v)∨(P u y∧P x v))) :
  UF n (upd ab x (y:Nat)) (upd ls y (if ls x<ls y then ls x else ls y)) P' (fun z=>if rt z=x then y else rt z) (fun z=>if rt z=x then dp z+dp y+1 else dp z):=by
 refine ⟨fun z hz=>?_,fun z hz=>?_,fun z hz hr=>?_,fun u v hu hv=>?_⟩
 ·by_cases hzx:z=x
  ·subst hzx
   refine ⟨y,hy,Qab _ _ _,?_,?_,fun _=>?_⟩
   ·simp only [rx,ry,if_true];rw [if_neg (fun k=>hxy k.symm)]
   ·simp only [rx,if_true]
   ·simp only [rx,ry,if_true];rw [if_neg (fun k=>hxy k.symm)];omega
  ·obtain ⟨p,h1,h2,h3,h4,h5⟩:=h.up z hz
   refine ⟨p,h1,by rw [Qag _ _ hzx];exact h2,by simp only [h3],?_,fun k=>?_⟩
   ·by_cases hr:rt z=x
    ·simp only [hr,if_true]
     rw [h4,hr]
     constructor
     ·intro k;exact absurd k.symm hzx
     ·rintro rfl;exact absurd (hr.symm.trans ry) (fun k=>hxy k)
    ·simp only [hr,if_false];exact h4
   ·have:=h5 k
    simp only [h3]
    split<;>omega
 ·have h1:=h.rl z hz
  by_cases hr:rt z=x
  ·simp only [hr,if_true,ry]
   rw [if_neg (fun k=>hxy k.symm)];exact ⟨hy,rfl⟩
  ·simp only [hr,if_false,h1.2];exact ⟨h1.1,trivial⟩
 ·by_cases hzy:z=y
  ·subst hzy
   obtain ⟨m,m1,m2,m3,m4⟩:=h.lm z hy ry
   obtain ⟨k,k1,k2,k3,k4⟩:=h.lm x hx rx
   rw [Qab,m2,k2]
   by_cases hkm:k<m
   ·refine ⟨k,k1,by rw [if_pos (by omega)],by simp [k3],fun u hu hr=>?_⟩
    by_cases e:rt u=x
    ·exact k4 u hu e
    ·rw [if_neg e] at hr;have:=m4 u hu hr;omega
   ·refine ⟨m,m1,by rw [if_neg (by omega)],?_,fun u hu hr=>?_⟩
    ·show (if rt m=x then z else rt m)=z
     rw [m3];split
     ·rfl
     ·rfl
    ·by_cases e:rt u=x
     ·have:=k4 u hu e;omega
     ·rw [if_neg e] at hr;exact m4 u hu hr
  ·have hrz:rt z=z∧z≠x:=by
    by_cases e:rt z=x
    ·simp only [e,if_true] at hr;exact absurd hr.symm hzy
    ·simp only [e,if_false] at hr;exact ⟨hr,fun k=>e (k ▸ rx)⟩
   obtain ⟨m,m1,m2,m3,m4⟩:=h.lm z hz hrz.1
   rw [Qag _ _ hzy]
   refine ⟨m,m1,m2,?_,fun u hu hr=>?_⟩
   ·show (if rt m=x then y else rt m)=z
    rw [if_neg (by rw [m3];exact hrz.2),m3]
   ·by_cases e:rt u=x
    ·rw [if_pos e] at hr;exact absurd hr.symm hzy
    ·rw [if_neg e] at hr;exact m4 u hu hr
 ·rw [hP u v hu hv,←h.eq u v hu hv,←h.eq u x hu hx,←h.eq y v hy hv,←h.eq u y hu hy,←h.eq x v hx hv,rx,ry]
  by_cases e1:rt u=x<;>by_cases e2:rt v=x
  ·rw [if_pos e1,if_pos e2,e1,e2];simp
  ·rw [if_pos e1,if_neg e2]
   constructor
   ·intro k;exact .inr (.inl ⟨e1,k⟩)
   ·rintro (k | k | k)
    ·exact absurd (k.symm.trans e1) e2
    ·exact k.2
    ·exact absurd k.2.symm e2
  ·rw [if_neg e1,if_pos e2]
   constructor
   ·intro k;exact .inr (.inr ⟨k,e2.symm⟩)
   ·rintro (k | k | k)
    ·exact absurd (k.trans e2) e1
    ·exact absurd k.1 e1
    ·exact k.1
  ·rw [if_neg e1,if_neg e2]
   constructor
   ·exact .inl
   ·rintro (k | k | k)
    ·exact k
    ·exact absurd k.1 e1
    ·exact absurd k.2.symm e2
end
theorem Zjj:ET Pg 387 393 3 12:=ET.of (by kernel_rfl) (by kernel_rfl)
def rts (rt:Nat→Nat) (n:Nat):Nat:=((List.range n).filter fun x=>rt x==x).length
theorem Zdv {rt:Nat→Nat} {n x y:Nat} (hx:x<n) (rx:rt x=x) (ry:rt y=y) (hxy:x≠y):rts rt n=rts (fun z=>if rt z=x then y else rt z) n+1:=by
 unfold rts
 rw [Qu0 List.nodup_range (List.mem_range.2 hx) (by rw [rx];simp)]
 congr 2
 refine List.filter_congr fun z _=>?_
 rw [Bool.eq_iff_iff,Bool.and_eq_true,beq_iff_eq,decide_eq_true_iff,beq_iff_eq]
 show rt z=z∧z≠x↔(if rt z=x then y else rt z)=z
 constructor
 ·rintro ⟨h1,h2⟩
  rw [if_neg (by rw [h1];exact h2)];exact h1
 ·intro h
  by_cases e:rt z=x
  ·rw [if_pos e] at h
   subst h
   rw [ry] at e;exact absurd e.symm hxy
  ·rw [if_neg e] at h
   exact ⟨h,fun k=>e (by rw [k,rx])⟩
def UD (w:World) (lo G A S L n:Nat) (P:Nat→Nat→Prop) (ab sz ls:Nat→Int) (rt dp:Nat→Nat) (b:Option Addr) (l c:Nat) (xs:List Value):Prop:=
 Row w.heap G 389 [.slice (some ⟨A,0,none⟩) n n,.slice (some ⟨S,0,none⟩) n n,.slice (some ⟨L,0,none⟩) n n,.slice b l c]∧
  Row w.heap A 21 (recs (ic ab) n)∧Row w.heap S 21 (recs (ic sz) n)∧Row w.heap L 21 (recs (ic ls) n)∧Own w lo 393 3 b l c xs∧UF n ab ls P rt dp∧
  (∀g,bk b=some g→g≠G∧g≠A∧g≠S∧g≠L)∧l+rts rt n≤n
structure UG (w:World) (lo G A S L n:Nat) (P:Nat→Nat→Prop):Prop where
 e:∃ab sz ls rt dp b l c xs,UD w lo G A S L n P ab sz ls rt dp b l c xs
 ne:G≠A∧G≠S∧G≠L∧A≠S∧A≠L∧S≠L
 lo:lo≤G∧lo≤A∧lo≤S∧lo≤L
 n1:1≤n∧n≤1048576
structure UL (w:World) (lo G A S L n:Nat) (P:Nat→Nat→Prop) (lm:Nat→Nat):Prop where
 e:∃ab sz ls rt dp b l c xs,UD w lo G A S L n P ab sz ls rt dp b l c xs∧∀x,x<n→ls (rt x)=(lm x:Nat)
 lo:lo≤G∧lo≤A∧lo≤S∧lo≤L
 lt:∀x,x<n→lm x<n∧P x (lm x)
 eq:∀x y,x<n→y<n→(lm x=lm y↔P x y)
 n1:1≤n∧n≤1048576
section
variable {w w':World} {lo G A S L n x y:Nat} {P P':Nat→Nat→Prop} {ab sz ls:Nat→Int} {rt dp lm:Nat→Nat} {b:Option Addr} {l c:Nat} {xs:List Value}
theorem UD.keep {Z:Nat→Prop} (h:UD w lo G A S L n P ab sz ls rt dp b l c xs) (k:Chg Z w w') (hZ:∀g,Z g→g<lo) (hlo:lo≤G∧lo≤A∧lo≤S∧lo≤L):UD w' lo G A S L n P ab sz ls rt dp b l c xs:=by
 obtain ⟨h1,h2,h3,h4,h5,h6,h7,h8⟩:=h
 have nz:∀{g},lo≤g→¬Z g:=fun {g} h1 h2=>by have:=hZ g h2;omega
 exact ⟨k.row (nz hlo.1) h1,k.row (nz hlo.2.1) h2,k.row (nz hlo.2.2.1) h3,k.row (nz hlo.2.2.2) h4,h5.keep k fun g hg=>nz (h5.Qar hg).1,h6,h7,h8⟩
theorem UG.keep {Z:Nat→Prop} (h:UG w lo G A S L n P) (k:Chg Z w w') (hZ:∀g,Z g→g<lo):UG w' lo G A S L n P:=by
 obtain ⟨ab,sz,ls,rt,dp,b,l,c,xs,hd⟩:=h.e
 exact ⟨⟨ab,sz,ls,rt,dp,b,l,c,xs,hd.keep k hZ h.lo⟩,h.ne,h.lo,h.n1⟩
theorem UL.keep {Z:Nat→Prop} (h:UL w lo G A S L n P lm) (k:Chg Z w w') (hZ:∀g,Z g→g<lo):UL w' lo G A S L n P lm:=by
 obtain ⟨ab,sz,ls,rt,dp,b,l,c,xs,hd,hl⟩:=h.e
 exact ⟨⟨ab,sz,ls,rt,dp,b,l,c,xs,hd.keep k hZ h.lo,hl⟩,h.lo,h.lt,h.eq,h.n1⟩
theorem UL.nob (h:UL w lo G A S L n P lm) (k:Chg Qaa w w'):UL w' lo G A S L n P lm:=h.keep k fun _ h=>h.elim
theorem UG.least (h:UG w lo G A S L n P):∃lm,UL w lo G A S L n P lm:=by
 obtain ⟨ab,sz,ls,rt,dp,b,l,c,xs,hd⟩:=h.e
 have uf:UF n ab ls P rt dp:=hd.2.2.2.2.2.1
 have hm:∀x,x<n→∃m,m<n∧ls (rt x)=(m:Nat)∧rt m=rt x:=fun x hx=>by
  obtain ⟨r1,r2⟩:=uf.rl x hx
  obtain ⟨m,m1,m2,m3,_⟩:=uf.lm _ r1 r2
  exact ⟨m,m1,m2,m3⟩
 refine ⟨fun x=>(ls (rt x)).toNat,⟨ab,sz,ls,rt,dp,b,l,c,xs,hd,fun x hx=>?_⟩,h.lo,fun x hx=>?_,fun x y hx hy=>?_,h.n1⟩
 ·obtain ⟨m,m1,m2,m3⟩:=hm x hx
  rw [m2];rfl
 ·obtain ⟨m,m1,m2,m3⟩:=hm x hx
  have e:(ls (rt x)).toNat=m:=by rw [m2];rfl
  rw [e]
  exact ⟨m1,(uf.eq x m hx m1).1 m3.symm⟩
 ·obtain ⟨m,m1,m2,m3⟩:=hm x hx
  obtain ⟨k,k1,k2,k3⟩:=hm y hy
  rw [←uf.eq x y hx hy,m2,k2,Int.toNat_natCast,Int.toNat_natCast]
  constructor
  ·rintro rfl;rw [←m3,←k3]
  ·intro e;rw [e] at m2;rw [m2] at k2;omega
theorem UG.nob (h:UG w lo G A S L n P) (k:Chg Qaa w w'):UG w' lo G A S L n P:=h.keep k fun _ h=>h.elim
theorem UG.iff (h:UG w lo G A S L n P) (k:∀u v,u<n→v<n→(P u v↔P' u v)):UG w lo G A S L n P':=by
 obtain ⟨ab,sz,ls,rt,dp,b,l,c,xs,h1,h2,h3,h4,h5,h6,h7,h8⟩:=h.e
 exact ⟨⟨ab,sz,ls,rt,dp,b,l,c,xs,h1,h2,h3,h4,h5,⟨h6.up,h6.rl,h6.lm,fun u v hu hv=>by rw [h6.eq u v hu hv];exact k u v hu hv⟩,h7,h8⟩,h.ne,h.lo,h.n1⟩
theorem Zkj (h1:1≤n) (h2:n≤1048576) (hP:∀x y,P x y↔x=y):Calls Pg 257 #[.int .i64 (n:Nat)] w fun r w'=>∃G A S L,r=.returned (.tuple #[.pointer (some ⟨G,0,none⟩),errV 0])∧Chg Qaa w w'∧UG w' w.heap.size G A S L n P:=by
 refine (Qtc _).go ?_
 unfold Qsf nr
 refine ⟨fun _ w'=>w'=w,?_,?_⟩
 ·exact Qac (fun h=>by simp only [b1s] at h;omega) (fun _=>Qac (fun h=>by simp only [b1s] at h;omega) (fun _=>rfl))
 rintro _ w2 rfl
 simp only [Int.toNat_natCast]
 refine ⟨fun vs w'=>∃G A C E,vs=[.pointer (some ⟨G,0,none⟩)]∧Chg Qaa w2 w'∧(w2.heap.size≤G∧w2.heap.size≤A∧w2.heap.size≤C∧w2.heap.size≤E)∧(G≠A∧G≠C∧G≠E∧A≠C∧A≠E∧C≠E)∧Row w'.heap G 389 [.slice (some ⟨A,0,none⟩) n n,.slice (some ⟨C,0,none⟩) n n,.slice (some ⟨E,0,none⟩) n n,.slice none 0 0]∧
  Row w'.heap A 21 (recs (ic fun _=>0) n)∧Row w'.heap C 21 (recs (ic fun _=>0) n)∧Row w'.heap E 21 (recs (ic fun _=>0) n),?_,?_⟩
 ·have y0:(0:Int)≤(n:Int):=by omega
  have y2:(4:Int)*(n:Int)≤140737488355328:=by omega
  have ye:=Int.le_refl (n:Int)
  refine ⟨⟨y0,ye,y2,Qal fun r1=>⟨⟨y0,ye,y2,Qal fun r2=>⟨y0,ye,y2,Qal fun r3=>Qal fun r4=>?_⟩⟩,y0,ye,y2,Qal fun r2=>⟨y0,ye,y2,Qal fun r3=>Qal fun r4=>?_⟩⟩⟩,
   ⟨y0,ye,y2,Qal fun r1=>⟨⟨y0,ye,y2,Qal fun r2=>⟨y0,ye,y2,Qal fun r3=>Qal fun r4=>?_⟩⟩,y0,ye,y2,Qal fun r2=>⟨y0,ye,y2,Qal fun r3=>Qal fun r4=>?_⟩⟩⟩,
   y0,ye,y2,Qal fun r1=>⟨⟨y0,ye,y2,Qal fun r2=>⟨y0,ye,y2,Qal fun r3=>Qal fun r4=>?_⟩⟩,y0,ye,y2,Qal fun r2=>⟨y0,ye,y2,Qal fun r3=>Qal fun r4=>?_⟩⟩⟩
  all_goals
   rw [Qas] at r1 r2 r3
   refine ⟨_,_,_,_,rfl,((((Chg.refl _ _).drew.alloc _).alloc _).alloc _).alloc _,?_,?_,r4,by first | exact ((r1.alloc _).alloc _).alloc _ | exact (r2.alloc _).alloc _ | exact r3.alloc _,by first | exact ((r1.alloc _).alloc _).alloc _ | exact (r2.alloc _).alloc _ | exact r3.alloc _,by first | exact ((r1.alloc _).alloc _).alloc _ | exact (r2.alloc _).alloc _ | exact r3.alloc _⟩<;>simp only [Q0j,Q5i]<;>omega
 rintro _ p w3 ⟨G,A,C,E,hp,hc,hb,hn,rG,rA,rC,rE⟩
 simp only [List.cons.injEq,Value.pointer.injEq,and_true] at hp
 subst hp
 refine pt_i (Qai rG rfl ?_)
 let F:Nat→Nat→Nat→Int:=fun i z x=>if x<i then z else 0
 let J:Nat→List Value→World→Prop:=fun j vs w'=>∃i:Nat,vs=[.int .i64 i]∧i≤n∧Chg (fun k=>k=A∨k=C∨k=E) w3 w'∧Row w'.heap A 21 (recs (ic fun x=>if x<i then (x:Nat) else 0) n)∧Row w'.heap C 21 (recs (ic fun x=>if x<i then 1 else 0) n)∧Row w'.heap E 21 (recs (ic fun x=>if x<i then (x:Nat) else 0) n)∧j=n-i
 refine ⟨LI J,LM J,⟨_,0,rfl,by omega,Chg.refl _ _,by simpa using rA,by simpa using rC,by simpa using rE,rfl⟩,?_⟩
 intro _ i w28 hJ
 obtain ⟨i,hvs,hin,ck,kA,kC,kE,hj⟩:=hJ.at
 simp only [vj] at hvs
 subst hvs
 have kG:=ck.row (by omega) rG
 have ic_upd:∀{f:Nat→Int} {z:Int},z=f i→recs (ic (upd (fun x=>if x<i then f x else 0) i z)) n=recs (ic fun x=>if x<i+1 then f x else 0) n:=fun {f z} e=>by
  refine Qbb fun x _=>?_
  unfold ic upd
  congr 2
  show (if x=i then z else if x<i then f x else 0)=if x<i+1 then f x else 0
  by_cases h1:x=i
  ·rw [if_pos h1,if_pos (by omega),e,h1]
  ·rw [if_neg h1]
   by_cases h2:x<i
   ·rw [if_pos h2,if_pos (by omega)]
   ·rw [if_neg h2,if_neg (by omega)]
 refine Qac (fun hlt=>?_) (fun hlt=>?_)<;>simp only [b1s] at hlt
 ·have hi:i<n:=by omega
  have c0:Chg Qaa w28 w28.drew:=(Chg.refl _ _).drew
  have kG:=c0.row (fun h=>h) kG
  have kA:=c0.row (fun h=>h) kA
  have kC:=c0.row (fun h=>h) kC
  have kE:=c0.row (fun h=>h) kE
  have ck0:=ck.trans c0.weak
  generalize w28.drew=w29 at *
  refine pt_i (Qai kG rfl (pt_i ?_))
  rw [Qad]
  refine Qai kG rfl (pt_i ?_)
  rw [Qad]
  refine Qai kG rfl (Qat hi ?_)
  rw [Nat.zero_add,Nat.mul_one,wrap32_in (by omega) (by omega)]
  refine Qao kA (by rw [Qah _ Qjh];omega) rfl fun w30 c30 k30=>Qat hi ?_
  rw [Nat.zero_add,Nat.mul_one]
  refine Qao (c30.row (by omega) kC) (by rw [Qah _ Qjh];omega) rfl fun w31 c31 k31=>Qat hi ?_
  rw [Nat.zero_add,Nat.mul_one]
  refine Qao (c31.row (by omega) (c30.row (by omega) kE)) (by rw [Qah _ Qjh];omega) rfl fun w32 c32 k32=>?_
  rw [wrap64_in (by omega) (by omega)]
  rw [Qp1 hi] at k30 k31 k32
  rw [ic_upd (f:=fun x=>(x:Nat)) rfl] at k30 k32
  rw [ic_upd (f:=fun _=>1) rfl] at k31
  refine LI.again (k:=n-(i+1)) ⟨i+1,rfl,by omega,ck0.trans (((c30.mono fun _ _ e=>.inl e).trans (c31.mono fun _ _ e=>.inr (.inl e))).trans (c32.mono fun _ _ e=>.inr (.inr e))),c32.row (by omega) (c31.row (by omega) k30),c32.row (by omega) k31,k32,rfl⟩ (by rw [hj];omega)
 ·obtain rfl:i=n:=by omega
  have ef:∀{f:Nat→Int},recs (ic fun x=>if x<i then f x else 0) i=recs (ic f) i:=fun {f}=>Qbb fun x hx=>by simp [ic,hx]
  rw [ef] at kA kE kC
  refine ⟨G,A,C,E,rfl,hc.trans' ck fun k e=>.inr (by omega),⟨⟨_,_,_,_,_,none,0,0,[],kG,kA,kC,kE,Own.nil,UF.one hP,fun g hg=>(by cases hg),?_⟩,hn,hb,h1,h2⟩⟩
  rw [Nat.zero_add]
  have:=List.length_filter_le (fun x=>id x==x) (List.range i)
  rwa [List.length_range] at this
theorem Q95 (h:UD w lo G A S L n P ab sz ls rt dp b l c xs) (hn:1≤n∧n≤1048576) (hx:x<n):Calls Pg 292 #[.pointer (some ⟨G,0,none⟩),.int .i64 (x:Nat)] w fun r w'=>r=.returned (.tuple #[.int .i32 (rt x:Nat),errV 0])∧w'=w:=by
 refine (Qqz _ _).go ?_
 obtain ⟨h1,h2,h3,h4,h5,h6,h7,h8⟩:=h
 unfold Qj8 nr
 refine ⟨fun _ w'=>w'=w,?_,?_⟩
 ·refine Qac (fun h=>by cases h) (fun _=>Qac (fun k=>by simp only [b1s] at k;omega) (fun _=>pt_i (Qai h1 rfl (Qac (fun k=>by simp only [b1s] at k;omega) (fun _=>rfl)))))
 rintro _ w5 rfl
 rw [wrap32_in (by omega) (by omega)]
 let J:Nat→List Value→World→Prop:=fun j vs w'=>∃z:Nat,vs=[.int .i32 z]∧z<n∧rt z=rt x∧w'=w5∧j=dp z
 refine ⟨LI J,LM J,⟨_,x,rfl,hx,rfl,rfl,rfl⟩,?_⟩
 intro _ z w6 hJ
 obtain ⟨z,hvs,hz,hr,rfl,hj⟩:=hJ.at
 simp only [vj] at hvs
 subst hvs
 obtain ⟨p,p1,p2,p3,p4,p5⟩:=h6.up z hz
 have g0:(recs (ic ab) n)[z]?=some (.int .i32 (p:Nat)):=by rw [←p2];exact Qhy hz
 refine pt_i (Qai h1 rfl (Qat hz ?_))
 rw [Nat.zero_add,Nat.mul_one]
 refine Qaf (n:=(p:Nat)) h2 g0 (Qac (fun k=>?_) (fun k=>?_))<;>simp only [b1s] at k
 ·refine pt_i (Qai h1 rfl (Qat hz ?_))
  rw [Nat.zero_add,Nat.mul_one]
  exact Qaf (n:=(p:Nat)) h2 g0 (LI.again (k:=dp p) ⟨p,rfl,p1,p3.trans hr,rfl,rfl⟩ (by rw [hj];exact p5 (by omega)))
 ·have:rt z=z:=p4.1 (by omega)
  exact ⟨by rw [←hr,this];rfl,rfl⟩
theorem Zho (h:UL w lo G A S L n P lm) (hx:x<n):Calls Pg 260 #[.pointer (some ⟨G,0,none⟩),.int .i64 (x:Nat)] w fun r w'=>r=.returned (.tuple #[.int .i64 (lm x:Nat),errV 0])∧w'=w:=by
 refine (Qp9 _ _).go ?_
 unfold Qjb nr
 obtain ⟨ab,sz,ls,rt,dp,b,l,c,xs,hd,hl⟩:=h.e
 have hn:=h.n1
 refine (Q95 hd hn hx).mono ?_
 rintro r w4 ⟨rfl,rfl⟩
 obtain ⟨h1,h2,h3,h4,h5,h6,h7,h8⟩:=hd
 obtain ⟨r1,r2⟩:=h6.rl x hx
 have hl1:=h.lt x hx
 refine ⟨_,_,rfl,Qaj (fun e=>absurd rfl e) (fun _=>pt_i ?_)⟩
 rw [Qad]
 refine Qai h1 rfl (Qat r1 ?_)
 rw [Nat.zero_add,Nat.mul_one]
 refine Qaf (n:=ls (rt x)) h4 (Qhy r1) ?_
 rw [hl x hx,wrap64_in (by omega) (by omega)]
 exact ⟨rfl,rfl⟩
theorem Zfm (h:UG w lo G A S L n P) (hx:x<n) (hy:y<n) (hP:∀u v,u<n→v<n→(P' u v↔P u v∨(P u x∧P y v)∨(P u y∧P x v))) (hlo:lo≤w.heap.size) :
  Calls Pg 259 #[.pointer (some ⟨G,0,none⟩),.int .i64 (x:Nat),.int .i64 (y:Nat)] w fun r w'=>∃z,r=.returned (.tuple #[.bool z,errV 0])∧(z=true↔¬P x y)∧UG w' lo G A S L n P'∧Chg (fun k=>lo≤k) w w':=by
 refine (Qq0 _ _ _).go ?_
 unfold Qj9 nr
 obtain ⟨ab,sz,ls,rt,dp,b,l,c,xs,hd⟩:=h.e
 have hn:=h.n1
 have uf:UF n ab ls P rt dp:=hd.2.2.2.2.2.1
 obtain ⟨x1,x2⟩:=uf.rl x hx
 obtain ⟨y1,y2⟩:=uf.rl y hy
 refine (Qrz _ _ _ _ (fun v' w'=>v'=.tuple #[.int .i32 (rt x:Nat),.int .i32 (rt y:Nat),errV 0]∧w'=w) ?_).mono ?_
 ·unfold Qlj nr
  refine (Q95 hd hn hx).mono ?_
  rintro r w4 ⟨rfl,rfl⟩
  refine ⟨_,_,rfl,Qaj (fun e=>absurd rfl e) (fun _=>(Q95 hd hn hy).mono ?_)⟩
  rintro r w5 ⟨rfl,rfl⟩
  exact ⟨_,_,rfl,rfl,rfl⟩
 rintro r w6 ⟨v,rfl,rfl,rfl⟩
 refine ⟨_,_,_,rfl,fun _ w'=>w'=w6∧rt x≠rt y,Qaj (fun e=>absurd rfl e) (fun _=>Qac (fun k=>?_) (fun k=>⟨rfl,by simp only [b1s] at k;omega⟩)),?_⟩
 ·simp only [b1s] at k
  have hxy:P x y:=(uf.eq x y hx hy).1 (by omega)
  refine ⟨false,rfl,⟨fun k=>(by cases k),fun k=>absurd hxy k⟩,h.iff fun u v hu hv=>?_,Chg.refl _ _⟩
  rw [hP u v hu hv]
  rw [←uf.eq x y hx hy] at hxy
  rw [←uf.eq u v hu hv,←uf.eq u x hu hx,←uf.eq y v hy hv,←uf.eq u y hu hy,←uf.eq x v hx hv]
  constructor
  ·exact .inl
  ·rintro (k | k | k)
   ·exact k
   ·exact k.1.trans (hxy.trans k.2)
   ·exact k.1.trans (hxy.symm.trans k.2)
 rintro _ w9 ⟨rfl,hne⟩
 obtain ⟨h1,h2,h3,h4,h5,h6,h7,h8⟩:=hd
 have hN:=h.ne
 have hL:=h.lo
 refine ⟨fun vs w'=>w'=w9.drew∧∃p q:Nat,vs=[.int .i32 p,.int .i32 q]∧((p=rt x∧q=rt y)∨(p=rt y∧q=rt x)),?_,?_⟩
 ·refine pt_i ?_
  rw [Qad]
  refine Qai (w:=w9.drew) h1 rfl (Qat x1 ?_)
  rw [Nat.zero_add,Nat.mul_one]
  refine Qaf (w:=w9.drew) (n:=sz (rt x)) h3 (Qhy x1) (pt_i (Qai (w:=w9.drew) h1 rfl (Qat y1 ?_)))
  rw [Nat.zero_add,Nat.mul_one]
  exact Qaf (w:=w9.drew) (n:=sz (rt y)) h3 (Qhy y1) (Qac (fun _=>⟨rfl,_,_,rfl,.inr ⟨rfl,rfl⟩⟩) (fun _=>⟨rfl,_,_,rfl,.inl ⟨rfl,rfl⟩⟩))
 rintro _ n19 n20 w21 ⟨rfl,p,q,hvs,hpq⟩
 simp only [vj] at hvs
 obtain ⟨rfl,rfl⟩:=hvs
 have hp:p<n∧rt p=p:=by rcases hpq with ⟨rfl,rfl⟩ | ⟨rfl,rfl⟩<;>exact ⟨by assumption,by assumption⟩
 have hq:q<n∧rt q=q:=by rcases hpq with ⟨rfl,rfl⟩ | ⟨rfl,rfl⟩<;>exact ⟨by assumption,by assumption⟩
 have hpne:p≠q:=by rcases hpq with ⟨rfl,rfl⟩ | ⟨rfl,rfl⟩<;>omega
 have hP2:∀u v,u<n→v<n→(P' u v↔P u v∨(P u p∧P q v)∨(P u q∧P p v)):=fun u v hu hv=>by
  rw [hP u v hu hv,←uf.eq u x hu hx,←uf.eq y v hy hv,←uf.eq u y hu hy,←uf.eq x v hx hv,←uf.eq u p hu hp.1,←uf.eq q v hq.1 hv,←uf.eq u q hu hq.1,←uf.eq p v hp.1 hv,hp.2,hq.2]
  rcases hpq with ⟨rfl,rfl⟩ | ⟨rfl,rfl⟩
  ·exact Iff.rfl
  ·exact ⟨fun k=>k.imp_right Or.symm,fun k=>k.imp_right Or.symm⟩
 have ufj:=uf.join hp.1 hq.1 hp.2 hq.2 hpne hP2
 have hrts:=Zdv (rt:=rt) (n:=n) hp.1 hp.2 hq.2 hpne
 have c0:Chg Qaa w9 (w9.drew).drew:=((Chg.refl _ _).drew).drew
 have h1:Row (w9.drew).drew.heap _ _ _:=h1
 have h2:Row (w9.drew).drew.heap _ _ _:=h2
 have h3:Row (w9.drew).drew.heap _ _ _:=h3
 have h4:Row (w9.drew).drew.heap _ _ _:=h4
 have h5:Own (w9.drew).drew lo 393 3 b l c xs:=(h5.drew).drew
 have s0:(w9.drew).drew.heap.size=w9.heap.size:=rfl
 generalize (w9.drew).drew=w10 at *
 refine pt_i ?_
 rw [Qad]
 refine Qai h1 rfl (pt_i ?_)
 rw [Qad]
 refine Qai h1 rfl (Qat hq.1 ?_)
 rw [Nat.zero_add,Nat.mul_one]
 refine Qaf (n:=ls q) h4 (Qhy hq.1) (Qak fun B w11 hB c11 r11=>?_)
 have k1:=c11.row (fun h=>h) h1
 have k2:=c11.row (fun h=>h) h2
 have k3:=c11.row (fun h=>h) h3
 have k4:=c11.row (fun h=>h) h4
 have s11:=c11.size
 obtain ⟨b',c',w12,hrun,o12,c12,hb⟩:=Qaw (ty:=387) Zjj (h5.chg c11 fun _ _ _ h=>h) r11 rfl (by intro u hu;simp at hu;rcases hu with rfl | rfl | rfl<;>rfl) (by omega) (by omega) (by omega)
 refine ⟨by rw [k1.cell];rfl,_,_,_,_,hrun,pt_i ?_⟩
 have nb:∀{g},(g=G∨g=A∨g=S∨g=L)→¬bk b=some g:=fun {g} h1 h2=>by have:=h7 g h2;omega
 have k1:=c12.row (nb (.inl rfl)) k1
 have k2:=c12.row (nb (.inr (.inl rfl))) k2
 have k3:=c12.row (nb (.inr (.inr (.inl rfl)))) k3
 have k4:=c12.row (nb (.inr (.inr (.inr rfl)))) k4
 have hlt:=k1.lt
 have hltA:=k2.lt
 have hltS:=k3.lt
 have hltL:=k4.lt
 rw [Qad]
 refine Qao k1 (by simp) rfl fun w13 c13 k1=>pt_i (Qai k1 rfl (Qat hp.1 ?_))
 rw [Nat.zero_add,Nat.mul_one]
 have k2:=c13.row (by omega) k2
 have k3:=c13.row (by omega) k3
 have k4:=c13.row (by omega) k4
 refine Qao k2 (by rw [Qah _ Qjh];omega) rfl fun w14 c14 k2=>pt_i ?_
 rw [Qp1 hp.1] at k2
 have d14:Chg Qaa w14 w14.drew:=(Chg.refl _ _).drew
 have k1:=d14.row (fun h=>h) (c14.row (by omega) k1)
 have k2:=d14.row (fun h=>h) k2
 have k3:=d14.row (fun h=>h) (c14.row (by omega) k3)
 have k4:=d14.row (fun h=>h) (c14.row (by omega) k4)
 have c15:=c14.trans d14.weak
 generalize w14.drew=w15 at *
 rw [Qad]
 refine Qai k1 rfl (Qat hq.1 ?_)
 rw [Nat.zero_add,Nat.mul_one]
 refine Qaf (n:=sz q) k3 (Qhy hq.1) (pt_i (Qai k1 rfl (Qat hp.1 ?_)))
 rw [Nat.zero_add,Nat.mul_one]
 refine Qaf (n:=sz p) k3 (Qhy hp.1) (Qat hq.1 ?_)
 rw [Nat.zero_add,Nat.mul_one]
 refine Qao k3 (by rw [Qah _ Qjh];omega) rfl fun w16 c16 k3=>pt_i ?_
 rw [Qp1 hq.1] at k3
 have d16:Chg Qaa w16 w16.drew:=(Chg.refl _ _).drew
 have k1:=d16.row (fun h=>h) (c16.row (by omega) k1)
 have k2:=d16.row (fun h=>h) (c16.row (by omega) k2)
 have k3:=d16.row (fun h=>h) k3
 have k4:=d16.row (fun h=>h) (c16.row (by omega) k4)
 have c17:=c16.trans d16.weak
 generalize w16.drew=w17 at *
 rw [Qad]
 refine Qai k1 rfl (pt_i (Qai k1 rfl (Qat hq.1 ?_)))
 rw [Nat.zero_add,Nat.mul_one]
 refine Qaf (n:=ls q) k4 (Qhy hq.1) (pt_i (Qai k1 rfl (Qat hp.1 ?_)))
 rw [Nat.zero_add,Nat.mul_one]
 refine Qaf (n:=ls p) k4 (Qhy hp.1) (Qat hq.1 ?_)
 rw [Nat.zero_add,Nat.mul_one]
 refine Qao k4 (by rw [Qah _ Qjh];omega) rfl fun w18 c18 k4=>?_
 rw [Qp1 hq.1] at k4
 have k1:=c18.row (by omega) k1
 have k2:=c18.row (by omega) k2
 have k3:=c18.row (by omega) k3
 have cr:Chg (fun k=>k=G∨k=A∨k=S∨k=L) w12 w18:=(((c13.mono fun _ _ e=>.inl e).trans (c15.mono fun _ _ e=>.inr (.inl e))).trans (c17.mono fun _ _ e=>.inr (.inr (.inl e)))).trans (c18.mono fun _ _ e=>.inr (.inr (.inr e)))
 have hb2:∀g,bk b'=some g→g≠G∧g≠A∧g≠S∧g≠L:=fun g hg=>by
  rcases hb with e | e
  ·rw [e] at hg;exact h7 g hg
  ·rw [e] at hg
   have hg':w11.heap.size=g:=Option.some.inj hg
   have a1:=h1.lt;have a2:=h2.lt;have a3:=h3.lt;have a4:=h4.lt
   omega
 refine ⟨true,rfl,⟨fun _ k=>hne ((uf.eq x y hx hy).2 k),fun _=>rfl⟩,⟨⟨_,_,_,_,_,b',l+1,c',_,k1,k2,k3,k4,o12.keep cr fun g hg k=>by have:=hb2 g hg;omega,ufj,hb2,by omega⟩,hN,hL,hn⟩,?_⟩
 refine (c0.weak.trans c11.weak).trans' ((c12.mono fun k _ e=>?_).trans (cr.mono fun k _ e=>?_)) (fun i h=>h)
 ·exact .inl (h5.Qar e).1
 ·left;omega
end
section
variable {w w':World} {T TD TL TM V E N e v m:Nat} {tl:Nat→List Nat} {l vs:List Nat} {vb b:Option Addr} {vc c:Nat} {g:Nat} {cap:Array Value} {p:Nat→Bool}
theorem Zjb (hE:Eall.contains g=true) (h:VA w b l.length 1 (ivs l)) (hl:l.length≤1000000000) (hg:∀x,x∈l→Calls Pg g (((#[]:Array Value).toList++[Value.int .i64 (x:Nat)])++cap.toList).toArray w fun r w'=>r=.returned (.bool (p x))∧w'=w) :
  Calls Pg 256 #[.slice b l.length c,.func (.func g) #[] cap] w fun r w'=>r=.returned (.bool (l.any p))∧w'=w:=by
 refine (Qdq _ _ _ _ _ (fun v' w'=>v'=.bool (l.any p)∧w'=w) ?_).mono rti
 unfold Qcg nr
 refine (Qed _ _ _ _ _ (fun v' w'=>∃n:Int,v'=.int .i64 n∧(n ≥ 0↔l.any p=true)∧w'=w) ?_).mono ?_
 ·unfold Qc3 nr
  let J:Nat→List Value→World→Prop:=fun j vs w'=>∃i:Nat,vs=[.int .i64 i]∧i≤l.length∧(∀x,x∈l.take i→p x=false)∧w'=w∧j=l.length-i
  refine ⟨LI J,LM J,⟨_,0,rfl,by omega,by simp,rfl,rfl⟩,?_⟩
  intro _ i w5 hJ
  obtain ⟨i,hvs,hi,hp,rfl,hj⟩:=hJ.at
  simp only [vj] at hvs
  subst hvs
  refine Qac (fun hlt=>?_) (fun hlt=>?_)<;>simp only [b1s] at hlt
  ·obtain ⟨x,hx⟩:∃x,l[i]?=some x:=⟨_,List.getElem?_eq_getElem (by omega)⟩
   have hxm:=List.mem_of_getElem? hx
   refine rdI h hx (Zcg hE ((hg x hxm).mono ?_))
   rintro r w9 ⟨rfl,rfl⟩
   refine ⟨_,rfl,Qac (fun k=>⟨_,rfl,⟨fun _=>List.any_eq_true.2 ⟨x,hxm,k⟩,fun _=>by omega⟩,rfl⟩) (fun k=>?_)⟩
   rw [wrap64_in (by omega) (by omega)]
   refine LI.again (k:=l.length-(i+1)) ⟨i+1,rfl,by omega,fun y hy=>?_,rfl,rfl⟩ (by rw [hj];omega)
   rw [List.take_add_one,hx] at hy
   rcases List.mem_append.1 hy with hy | hy
   ·exact hp y hy
   ·simp at hy;subst hy;exact k
  ·obtain rfl:i=l.length:=by omega
   rw [List.take_length] at hp
   refine ⟨_,rfl,⟨fun k=>by omega,fun k=>?_⟩,rfl⟩
   obtain ⟨x,hx,k⟩:=List.any_eq_true.1 k
   rw [hp x hx] at k;cases k
 ·rintro r w3 ⟨v,rfl,n,rfl,hn,rfl⟩
  refine ⟨_,rfl,?_,rfl⟩
  congr 1
  rw [Bool.eq_iff_iff,decide_eq_true_iff];exact hn
theorem Zdt {a:Nat} {n:Nat} {x:Nat} (r:Row w.heap a 3 [.int .i64 (n:Nat)]):Calls Pg 255 #[.int .i64 (x:Nat),.pointer (some ⟨a,0,none⟩)] w fun r w'=>r=.returned (.bool (decide (n≤x)))∧w'=w:=by
 refine (Qu6 _ _ _ (fun v' w'=>v'=.bool (decide (n≤x))∧w'=w) ?_).mono rti
 unfold Qpq nr
 refine Qac (fun k=>by simp only [b1s] at k;omega) (fun _=>pt_i (Qaf (n:=(n:Nat)) r rfl ⟨?_,rfl⟩))
 congr 1
 rw [Bool.eq_iff_iff,decide_eq_true_iff,decide_eq_true_iff];omega
theorem Zh1 (h:TV w.heap T TD TL TM V E N tl) (hv:VA w vb vs.length 1 (ivs vs)) (hs:VS V tl vs):Calls Pg 213 #[.pointer (some ⟨T,0,none⟩),.slice vb vs.length vc] w fun r w'=>r=.returned (errV 0)∧Chg Qaa w w':=by
 refine (Qon _ _ _ _).go ?_
 unfold Qlk nr
 have hvb:=h.vb
 have hv1:=hvb.v1
 have hn:=hvb.n1
 have hlen:vs.length≤V:=Qbh hs.nd fun x hx=>hs.lt x hx
 refine (Q5z h).mono ?_
 rintro r w4 ⟨rfl,c1⟩
 refine ⟨_,_,rfl,Qak fun A w7 hA c2 r2=>Qao r2 (by simp) rfl fun w8 c3 r3=>Qac (fun h=>by cases h) (fun _=>?_)⟩
 have s1:=c1.size
 have c13:Chg Qaa w w8:=(c1.trans c2).trans' c3 fun k e=>.inr (by omega)
 refine (Zjb (g:=255) (p:=fun x=>decide (V≤x)) (show Eall.contains 255=true by kernel_rfl) (hv.nob c13) (by omega) fun x hx=>Zdt r3).mono ?_
 rintro r w10 ⟨rfl,rfl⟩
 have hany:vs.any (fun x=>decide (V≤x))=false:=by
  rw [List.any_eq_false]
  intro x hx k
  have:=hs.lt x hx
  rw [decide_eq_true_iff] at k;omega
 rw [hany]
 refine ⟨_,rfl,Qac (fun h=>by cases h) (fun _=>Qaf (n:=(V:Nat)) r3 (by simp) ⟨by omega,Int.le_refl _,by omega,Qak fun B w14 hB c4 r4=>?_⟩)⟩
 rw [Int.toNat_natCast] at r4 ⊢
 have r4':Row w14.heap B 4 (recs (bc fun _=>false) V):=by rw [Qas] at r4;exact r4
 have c14:=c13.trans c4
 have s3:=c13.size
 let J:Nat→List Value→World→Prop:=fun j us w'=>∃i:Nat,us=[.int .i64 i]∧i≤vs.length∧Chg (fun k=>k=B) w14 w'∧Row w'.heap B 4 (recs (bc fun x=>decide (x∈vs.take i)) V)∧j=vs.length-i
 refine ⟨LI J,LM J,⟨_,0,rfl,by omega,Chg.refl _ _,by simpa using r4',rfl⟩,?_⟩
 intro _ i w18 hJ
 obtain ⟨i,hvs,hi,ck,rk,hj⟩:=hJ.at
 simp only [vj] at hvs
 subst hvs
 have cw:Chg Qaa w w18:=c14.trans' ck fun k e=>.inr (by omega)
 refine Qac (fun hlt=>?_) (fun hlt=>?_)<;>simp only [b1s] at hlt
 ·have hiL:i<vs.length:=by omega
  obtain ⟨x,hx⟩:∃x,vs[i]?=some x:=⟨_,List.getElem?_eq_getElem hiL⟩
  have hxV:=hs.lt x (List.mem_of_getElem? hx)
  have hnx:x∉vs.take i:=fun k=>by
   obtain ⟨j,hj⟩:=List.getElem?_of_mem k
   have hjl:=(List.getElem?_eq_some_iff.1 hj).1
   rw [List.length_take] at hjl
   rw [List.getElem?_take,if_pos (by omega)] at hj
   have:=(List.getElem?_inj (by omega) hs.nd).1 (hj.trans hx.symm)
   omega
  refine rdI (hv.nob cw) hx (Qat (by omega) (Qqt (n:=false) rk ?_ (Qac (fun k=>by cases k) (fun _=>Qat (by omega) ?_))))
  ·rw [Nat.zero_add,Nat.mul_one,Qj0 hxV,decide_eq_false hnx]
  rw [Nat.zero_add,Nat.mul_one,wrap64_in (by omega) (by omega)]
  refine Qao rk (by rw [Qah (sz:=1) _ (fun _=>rfl)];omega) rfl fun w24 c24 r24=>?_
  rw [Qz5 hxV] at r24
  refine LI.again (k:=vs.length-(i+1)) ⟨i+1,rfl,by omega,ck.trans c24,?_,rfl⟩ (by rw [hj];omega)
  refine (Qbb fun y _=>?_) ▸ r24
  have et:vs.take (i+1)=vs.take i++[x]:=by rw [List.take_add_one,hx];rfl
  unfold bc
  congr 2
  unfold upd
  rw [et]
  by_cases e:y=x
  ·subst e;simp
  ·rw [if_neg e]
   simp only [List.mem_append,List.mem_singleton,e,or_false]
 ·obtain rfl:i=vs.length:=by omega
  rw [List.take_length] at rk
  let J2:Nat→List Value→World→Prop:=fun j us w'=>∃i:Nat,us=[.int .i64 i]∧i≤V∧w'=w18∧j=V-i
  refine ⟨LI J2,LM J2,⟨_,0,rfl,by omega,rfl,rfl⟩,?_⟩
  intro _ i w28 hJ2
  obtain ⟨i,hvs,hi,rfl,hj⟩:=hJ2.at
  simp only [vj] at hvs
  subst hvs
  refine Qac (fun hlt=>?_) (fun hlt=>⟨rfl,cw⟩)
  simp only [b1s] at hlt
  have hiV:i<V:=by omega
  refine Qat (by omega) (Qqt (n:=decide (i∈vs)) rk (by rw [Nat.zero_add,Nat.mul_one];exact Qj0 hiV) ((Q69 (v:=i) (h.nob cw) hiV).mono ?_))
  rintro r w33 ⟨rfl,rfl⟩
  have nxt:IntKind.wrap .i64 ((i:Int)+1)=((i+1:Nat):Int):=by rw [wrap64_in (by omega) (by omega)];omega
  rw [nxt]
  have again:=fun (x:LI J2 [.int .i64 (i:Nat)] w33)=>LI.again (J:=J2) (vs:=[.int .i64 (i:Nat)]) (w:=w33) (k:=V-(i+1)) ⟨i+1,rfl,by omega,rfl,rfl⟩ (by rw [hj];omega)
  refine ⟨_,_,rfl,Qaj (fun e=>absurd rfl e) (fun _=>Qac (fun k=>Qac (fun k2=>?_) (fun _=>again hJ2)) (fun _=>again hJ2))⟩
  simp only [b1s] at k
  have hne:tl i≠[]:=fun e=>by rw [e] at k;simp at k
  rw [decide_eq_true (hs.all i hiV hne)] at k2
  cases k2
theorem Zkt (h:TV w.heap T TD TL TM V E N tl) (hM:MP N tl) (he:Laid tl N e):Calls Pg 258 #[.pointer (some ⟨T,0,none⟩),.int .i64 (e:Nat)] w fun r w'=>r=.returned (.tuple #[.int .i64 (og tl N (2*e):Nat),.int .i64 (og tl N (2*e+1):Nat),errV 0])∧Chg Qaa w w':=by
 refine (Qy7 _ _).go ?_
 unfold Qvi nr
 have hvb:=h.vb
 have hn:=hvb.n1
 have he1:=hvb.e1
 have ho:=hM.odd he
 have hlt:=hvb.lt _ ho
 rw [wrap64_in (x:=2*(e:Int)) (by omega) (by omega),wrap64_in (x:=2*(e:Int)+1) (by omega) (by omega),show (2:Int)*e=((2*e:Nat):Int) by omega,show ((2*e:Nat):Int)+1=((2*e+1:Nat):Int) by omega]
 refine (Qw5 h (by omega)).mono ?_
 rintro r w5 ⟨rfl,c1⟩
 rw [if_pos (show 2*e∈dl tl N from he)]
 refine ⟨_,_,rfl,Qaj (fun e=>absurd rfl e) (fun _=>(Qw5 (h.nob c1) hlt).mono ?_)⟩
 rintro r w9 ⟨rfl,c2⟩
 rw [if_pos ho]
 exact ⟨_,_,rfl,rfl,c1.trans c2⟩
def GCk (tl:Nat→List Nat) (N k:Nat):Nat→Nat→Prop:=RT fun x y=>∃e,e<k∧Laid tl N e∧((x=og tl N (2*e)∧y=og tl N (2*e+1))∨(x=og tl N (2*e+1)∧y=og tl N (2*e)))
theorem Zev {x y:Nat}:GCk tl N 0 x y↔x=y:=by
 constructor
 ·intro h
  induction h with
  | refl=>rfl
  | step _ k=>obtain ⟨e,h,_⟩:=k;omega
 ·rintro rfl;exact .refl
theorem Zex {k x y:Nat} (h:¬Laid tl N k):GCk tl N (k+1) x y↔GCk tl N k x y:=
 ⟨RT.mono fun u v ⟨e,h1,h2,h3⟩=>⟨e,by
  have:e≠k:=fun j=>h (j ▸ h2)
  omega,h2,h3⟩,RT.mono fun u v ⟨e,h1,h2,h3⟩=>⟨e,by omega,h2,h3⟩⟩
theorem Zew {k x y:Nat} (h:Laid tl N k):GCk tl N (k+1) x y↔GCk tl N k x y∨(GCk tl N k x (og tl N (2*k))∧GCk tl N k (og tl N (2*k+1)) y)∨(GCk tl N k x (og tl N (2*k+1))∧GCk tl N k (og tl N (2*k)) y):=by
 refine Q3u (fun u v ⟨e,h1,h2,h3⟩=>⟨e,h1,h2,h3.symm.imp (fun k=>⟨k.2,k.1⟩) fun k=>⟨k.2,k.1⟩⟩) fun u v=>?_
 constructor
 ·rintro ⟨e,h1,h2,h3⟩
  rcases Nat.lt_or_ge e k with j | j
  ·exact .inl ⟨e,j,h2,h3⟩
  ·obtain rfl:e=k:=by omega
   exact .inr h3
 ·rintro (⟨e,h1,h2⟩ | h3)
  ·exact ⟨e,by omega,h2⟩
  ·exact ⟨k,by omega,h,h3⟩
theorem Zjc {x y:Nat} (hE:∀e,Laid tl N e→e<E):GCk tl N E x y↔GC tl N x y:=
 ⟨RT.mono fun u v ⟨e,h1,h2⟩=>⟨e,h2⟩,RT.mono fun u v ⟨e,h2⟩=>⟨e,hE e h2.1,h2⟩⟩
theorem Zds (h:TV w.heap T TD TL TM V E N tl) (hM:MP N tl):Calls Pg 214 #[.pointer (some ⟨T,0,none⟩)] w fun r w'=>∃G A S L,r=.returned (.tuple #[.pointer (some ⟨G,0,none⟩),errV 0])∧Chg Qaa w w'∧UG w' w.heap.size G A S L V (GC tl N):=by
 refine (Qmd _).go ?_
 unfold Qj3 nr
 have hvb:=h.vb
 have hv1:=hvb.v1
 have he1:=hvb.e1
 have hn:=hvb.n1
 have hLE:∀e,Laid tl N e→e<E:=fun e k=>by have:=hvb.lt _ k;omega
 have hogV:∀d,d∈dl tl N→og tl N d<V:=fun d hd=>by
  rcases Nat.lt_or_ge (og tl N d) V with k | k
  ·exact k
  ·have:=(Qbm hd).2
   rw [hvb.b _ k] at this;cases this
 refine (Q5z h).mono ?_
 rintro r w3 ⟨rfl,c1⟩
 refine ⟨_,_,rfl,(Zkj (P:=GCk tl N 0) hv1.1 (by omega) fun x y=>Zev).mono ?_⟩
 rintro r w7 ⟨G,A,S,L,rfl,c2,ug⟩
 have s1:=c1.size
 have s2:=c2.size
 refine ⟨_,_,rfl,Qaj (fun e=>absurd rfl e) (fun _=>?_)⟩
 have hT:=h.lt
 let J:Nat→List Value→World→Prop:=fun j us w'=>∃i:Nat,us=[.int .i64 i]∧i≤E∧Chg (fun k=>w3.heap.size≤k) w7 w'∧UG w' w3.heap.size G A S L V (GCk tl N i)∧j=E-i
 refine ⟨LI J,LM J,⟨_,0,rfl,by omega,Chg.refl _ _,ug,rfl⟩,?_⟩
 intro _ i w12 hJ
 obtain ⟨i,hvs,hi,ck,ug,hj⟩:=hJ.at
 simp only [vj] at hvs
 subst hvs
 have cw:Chg Qaa w w12:=(c1.trans c2).trans' ck fun k e=>.inr (by omega)
 have s12:=ck.size
 refine Qac (fun hlt=>?_) (fun hlt=>?_)<;>simp only [b1s] at hlt
 ·have hiE:i<E:=by omega
  have nxt:IntKind.wrap .i64 ((i:Int)+1)=((i+1:Nat):Int):=by rw [wrap64_in (by omega) (by omega)];omega
  rw [nxt]
  refine (Zmr (h.nob cw) hiE).mono ?_
  rintro r w14 ⟨rfl,rfl⟩
  refine ⟨_,rfl,Qac (fun k=>?_) (fun k=>?_)⟩
  ·have hn:¬Laid tl N i:=by simpa using k
   exact LI.again (k:=E-(i+1)) ⟨i+1,rfl,by omega,ck,ug.iff fun u v _ _=>(Zex hn).symm,rfl⟩ (by rw [hj];omega)
  ·have hl:Laid tl N i:=by simpa using k
   refine (Zkt (h.nob cw) hM hl).mono ?_
   rintro r w19 ⟨rfl,c19⟩
   refine ⟨_,_,_,rfl,Qaj (fun e=>absurd rfl e) (fun _=>(Zfm (P':=GCk tl N (i+1)) (ug.nob c19) (hogV _ hl) (hogV _ (hM.odd hl)) (fun u v _ _=>Zew hl) (by have:=c19.size;omega)).mono ?_)⟩
   rintro r w23 ⟨z,rfl,_,ug2,c23⟩
   exact ⟨_,_,rfl,Qaj (fun e=>absurd rfl e) (fun _=>LI.again (k:=E-(i+1)) ⟨i+1,rfl,by omega,(ck.trans c19.weak).trans c23,ug2,rfl⟩ (by rw [hj];omega))⟩
 ·obtain rfl:i=E:=by omega
  have ug2:=ug.iff (P':=GC tl N) fun u v _ _=>Zjc hLE
  refine ⟨G,A,S,L,rfl,cw,⟨?_,ug2.ne,?_,ug2.n1⟩⟩
  ·obtain ⟨ab,sz,ls,rt,dp,b,l,c,xs,k1,k2,k3,k4,k5,k6⟩:=ug2.e
   exact ⟨ab,sz,ls,rt,dp,b,l,c,xs,k1,k2,k3,k4,k5.mono s1,k6⟩
  ·have:=ug2.lo;omega
def cnV (a b c:Int):Value:=.agg #[.int .i64 a,.int .i64 b,.int .i64 c,.int .i64 0]
def cm (K:Nat→Bool) (A B C:Nat→Int):Nat→Option Value:=fun r=>if K r then some (cnV (A r) (B r) (C r)) else none
theorem Zhf (w:World):(zeroValue 92).run Pg w=.ok (cnV 0 0 0) w:=by kernel_rfl
theorem Zh2 {lo G A0 S L n x:Nat} {lm:Nat→Nat} {P:Nat→Nat→Prop} {K:Nat→Bool} {A B C:Nat→Int} {a b c:Int} (h:UL w lo G A0 S L n P lm) (hx:x<n) (hm:MW w.heap m (cm K A B C)) (hz:K (lm x)=false→A (lm x)=0∧B (lm x)=0∧C (lm x)=0)
  (ha:0≤A (lm x)+a∧A (lm x)+a≤9000000000000000000) (hb:0≤B (lm x)+b∧B (lm x)+b≤9000000000000000000) (hc:0≤C (lm x)+c∧C (lm x)+c≤9000000000000000000) :
  Calls Pg 215 #[.map (some m),.pointer (some ⟨G,0,none⟩),.int .i64 (x:Nat),.agg #[.int .i64 a,.int .i64 b,.int .i64 c,.int .i64 0]] w fun r w'=>r=.returned (errV 0)∧Chg (·=m) w w'∧MW w'.heap m (cm (upd K (lm x) true) (upd A (lm x) (A (lm x)+a)) (upd B (lm x) (B (lm x)+b)) (upd C (lm x) (C (lm x)+c))):=by
 refine (Q0d _ _ _ _ _ _ _).go ?_
 unfold Qxb nr
 refine Qak fun A7 w8 hA c8 r8=>(Zho (h.nob c8) hx).mono ?_
 rintro r w11 ⟨rfl,rfl⟩
 refine ⟨_,_,rfl,Qaj (fun e=>absurd rfl e) (fun _=>?_)⟩
 have hm8:=hm.nob c8
 have hmlt:=hm.lt
 have hlk:=Zaz (P:=Pg) (t:=233) (kt:=3) (et:=92) (k:=lm x) hm8 (by kernel_rfl) (by kernel_rfl) (Zhf w11)
 have hv:(cm K A B C (lm x)).getD (cnV 0 0 0)=cnV (A (lm x)) (B (lm x)) (C (lm x)):=by
  unfold cm
  cases hk:K (lm x) with
  | true=>simp
  | false=>obtain ⟨h1,h2,h3⟩:=hz hk;rw [h1,h2,h3];simp
 rw [hv] at hlk
 refine ⟨_,_,_,_,w11,hlk,Qak fun A18 w19 hA18 c19 r19=>?_⟩
 simp only [Qad]
 have s8:=c8.size
 have s19:=c19.size
 refine Qao r19 (by simp) rfl fun w20 c20 r20=>Qao r20 (by simp) rfl fun w21 c21 r21=>Qao r21 (by simp) rfl fun w22 c22 r22=>Qao r22 (by simp) rfl fun w23 c23 r23=>?_
 have cc:=((c20.trans c21).trans c22).trans c23
 have r8':=cc.row (by have:=r8.lt;omega) (c19.row (fun h=>h) r8)
 have hm23:=(hm8.nob c19).keep cc (by omega)
 refine Qaf (n:=A (lm x)) r23 (by simp) (Qaf (n:=a) r8' rfl (Qaf (n:=B (lm x)) r23 (by simp) (Qaf (n:=b) r8' rfl (Qaf (n:=C (lm x)) r23 (by simp) (Qaf (n:=c) r8' rfl ?_)))))
 rw [wrap64_in (by omega) (by omega),wrap64_in (by omega) (by omega),wrap64_in (by omega) (by omega)]
 obtain ⟨w30,hrun,hm30,c30⟩:=Zay (P:=Pg) (t:=233) (kt:=3) (et:=92) (k:=lm x) (v:=cnV (A (lm x)+a) (B (lm x)+b) (C (lm x)+c)) hm23 (by kernel_rfl) (by kernel_rfl)
 refine ⟨w30,hrun,rfl,((c8.trans c19).weak.trans' cc fun k e=>.inr (by omega)).trans c30,?_⟩
 have:upd (cm K A B C) (lm x) (some (cnV (A (lm x)+a) (B (lm x)+b) (C (lm x)+c)))=cm (upd K (lm x) true) (upd A (lm x) (A (lm x)+a)) (upd B (lm x) (B (lm x)+b)) (upd C (lm x) (C (lm x)+c)):=by
  funext r
  unfold cm
  by_cases e:r=lm x
  ·subst e;simp [Qab]
  ·rw [Qag _ _ e,Qag _ _ e,Qag _ _ e,Qag _ _ e,Qag _ _ e]
 rw [←this];exact hm30
def kV (vs:List Nat) (lm:Nat→Nat) (r:Nat):Bool:=vs.any fun v=>lm v==r
variable {lm:Nat→Nat} {X:Nat→List Nat} {r:Nat}
theorem Zbk:kV (vs++[v]) lm=upd (kV vs lm) (lm v) true:=by
 funext r
 unfold kV upd
 rw [List.any_append]
 by_cases e:r=lm v
 ·subst e;simp
 ·rw [if_neg e]
  have:(lm v==r)=false:=beq_false_of_ne fun k=>e k.symm
  simp [this]
theorem Q6h:nV (vs++[v]) lm=upd (nV vs lm) (lm v) (nV vs lm (lm v)+1):=by
 funext r
 unfold nV upd
 rw [List.filter_append]
 by_cases e:r=lm v
 ·subst e;simp
 ·rw [if_neg e]
  have:(lm v==r)=false:=beq_false_of_ne fun k=>e k.symm
  simp [this]
theorem Zax:nE tl (vs++[v]) lm=upd (nE tl vs lm) (lm v) (nE tl vs lm (lm v)+(tl v).length):=by
 funext r
 unfold nE upd
 rw [List.filter_append]
 by_cases e:r=lm v
 ·subst e;simp
 ·rw [if_neg e]
  have:(lm v==r)=false:=beq_false_of_ne fun k=>e k.symm
  simp [this]
theorem Q76 (h:tl v=[]):nI tl (vs++[v]) lm=upd (nI tl vs lm) (lm v) (nI tl vs lm (lm v)+1):=by
 funext r
 unfold nI upd
 rw [List.filter_append]
 by_cases e:r=lm v
 ·subst e;simp [h]
 ·rw [if_neg e]
  have:(lm v==r)=false:=beq_false_of_ne fun k=>e k.symm
  simp [this]
theorem Q75 (h:tl v≠[]):nI tl (vs++[v]) lm=nI tl vs lm:=by
 funext r
 unfold nI
 rw [List.filter_append]
 have:(tl v).isEmpty=false:=by cases k:tl v with | nil=>exact absurd k h | cons a l=>rfl
 simp [this]
theorem Zaw {j:Nat}:nF tl N (j+1) X lm=upd (nF tl N j X lm) (lm (og tl N ((X j).headD 0))) (nF tl N j X lm (lm (og tl N ((X j).headD 0)))+1):=by
 funext r
 unfold nF upd
 rw [List.range_succ,List.filter_append]
 by_cases e:r=lm (og tl N ((X j).headD 0))
 ·subst e;simp
 ·rw [if_neg e]
  have:(lm (og tl N ((X j).headD 0))==r)=false:=beq_false_of_ne fun k=>e k.symm
  rw [show [j].filter (fun j=>lm (og tl N ((X j).headD 0))==r)=[] from List.filter_eq_nil_iff.2 (by intro a ha;rw [List.mem_singleton] at ha;subst ha;rw [this];decide),List.append_nil]
theorem Zau:0≤nV vs lm r∧nV vs lm r≤vs.length:=by
 unfold nV
 have:=List.length_filter_le (fun v=>lm v==r) vs
 omega
theorem Q9g:0≤nI tl vs lm r∧nI tl vs lm r≤vs.length:=by
 unfold nI
 have:=List.length_filter_le (fun v=>lm v==r&&(tl v).isEmpty) vs
 omega
theorem Zeg {j:Nat}:0≤nF tl N j X lm r∧nF tl N j X lm r≤j:=by
 unfold nF
 have:=List.length_filter_le (fun j=>lm (og tl N ((X j).headD 0))==r) (List.range j)
 rw [List.length_range] at this
 omega
theorem Zij (h:∀v,v∈vs→(tl v).length≤2097152):0≤nE tl vs lm r∧nE tl vs lm r≤2097152*vs.length:=by
 unfold nE
 have key:∀l:List Nat,(∀v,v∈l→(tl v).length≤2097152)→(l.map fun v=>(tl v).length).sum≤2097152*l.length:=by
  intro l
  induction l with
  | nil=>intro _;simp
  | cons a l ih=>
   intro h
   have h1:=ih fun v hv=>h v (List.mem_cons_of_mem _ hv)
   have h2:=h a (by simp)
   rw [List.map_cons,List.sum_cons,List.length_cons];omega
 have h1:=key (vs.filter fun v=>lm v==r) fun v hv=>h v (List.mem_filter.1 hv).1
 have h2:=List.length_filter_le (fun v=>lm v==r) vs
 omega
theorem Zkv (h:TV w.heap T TD TL TM V E N tl) (hM:MP N tl) (hv:VA w vb vs.length 1 (ivs vs)) (hs:VS V tl vs):Calls Pg 148 #[.pointer (some ⟨T,0,none⟩),.slice vb vs.length vc] w fun r w'=>∃m lm l X,r=.returned (.tuple #[.map (some m),errV 0])∧Chg Qaa w w'∧LM' V N tl lm∧Fcs tl N l X∧(∀j,j<l→∃d,d∈X j∧(X j).head?=some d)∧
  MW w'.heap m (cm (kV vs lm) (nV vs lm) (nE tl vs lm) fun r=>nI tl vs lm r+nF tl N l X lm r)∧l≤2*N:=by
 refine (Qy8 _ _ _ _).go ?_
 unfold Qvj nr
 have hvb:=h.vb
 have hv1:=hvb.v1
 have he1:=hvb.e1
 have hn:=hvb.n1
 have hlen:vs.length≤V:=Qbh hs.nd fun x hx=>hs.lt x hx
 have hdeg:∀v,v<N→(tl v).length≤2097152:=fun v hv=>by
  have:(tl v).length≤2*N:=Qbh (hM.nodup hv) fun x hx=>hM.lt x (Qa2.2 ⟨v,hv,hx⟩)
  omega
 have hT:=h.lt
 refine (Zh1 h hv hs).mono ?_
 rintro r w3 ⟨rfl,c1⟩
 refine ⟨_,rfl,Qaj (fun e=>absurd rfl e) (fun _=>(Zds (h.nob c1) hM).mono ?_)⟩
 rintro r w7 ⟨G,A,S,L,rfl,c2,ug⟩
 obtain ⟨lm,ul⟩:=ug.least
 refine ⟨_,_,rfl,Qaj (fun e=>absurd rfl e) (fun _=>⟨some w7.heap.size,w7.alloc (.map #[] 0),rfl,?_⟩)⟩
 have c3:Chg Qaa w7 (w7.alloc (.map #[] 0)):=(Chg.refl _ _).alloc _
 have hm:=MW.new w7
 have hml10:=hm.lt
 generalize hw10:w7.alloc (.map #[] 0)=w10 at *
 generalize hmm:w7.heap.size=m at *
 have hlo:=ul.lo
 have s1:=c1.size
 have s2:=c2.size
 have s3:=c3.size
 have c13:=(c1.trans c2).trans c3
 have ul10:=ul.nob c3
 have hGm:G<m∧A<m∧S<m∧L<m:=by
  obtain ⟨ab,sz,ls,rt,dp,b,l,c,xs,k1,k2,k3,k4,_⟩:=ug.e
  have:=k1.lt;have:=k2.lt;have:=k3.lt;have:=k4.lt
  omega
 have hlm:LM' V N tl lm:=⟨fun x hx=>(ul.lt x hx).1,fun x hx=>(ul.lt x hx).2,ul.eq,hvb.b⟩
 have hub:∀{w'},Chg (fun k=>k=m) w10 w'→UL w' w3.heap.size G A S L V (GC tl N) lm:=fun {w'} c=>by
  obtain ⟨ab,sz,ls,rt,dp,b,l,c',xs,⟨k1,k2,k3,k4,k5,k6⟩,k7⟩:=ul10.e
  have hb:∀g,bk b=some g→¬g=m:=fun g hg=>by
   obtain ⟨ab',sz',ls',rt',dp',b',l',c'',xs',⟨j1,j2,j3,j4,j5,j6⟩,j7⟩:=ul.e
   have e1:=(c3.row (fun h=>h) j1).inj k1
   simp only [List.cons.injEq,Value.slice.injEq,and_true,true_and] at e1
   have e2:b'=b:=e1.1
   subst e2
   have:=(j5.Qar hg).2
   omega
  exact ⟨⟨ab,sz,ls,rt,dp,b,l,c',xs,⟨c.row (by omega) k1,c.row (by omega) k2,c.row (by omega) k3,c.row (by omega) k4,k5.keep c hb,k6⟩,k7⟩,ul10.lo,ul10.lt,ul10.eq,ul10.n1⟩
 let J:Nat→List Value→World→Prop:=fun j us w'=>∃i:Nat,us=[.int .i64 i]∧i≤vs.length∧Chg (fun k=>k=m) w10 w'∧MW w'.heap m (cm (kV (vs.take i) lm) (nV (vs.take i) lm) (nE tl (vs.take i) lm) (nI tl (vs.take i) lm))∧j=vs.length-i
 have hm0:MW w10.heap m (cm (kV (vs.take 0) lm) (nV (vs.take 0) lm) (nE tl (vs.take 0) lm) (nI tl (vs.take 0) lm)):=by
  have:cm (kV (vs.take 0) lm) (nV (vs.take 0) lm) (nE tl (vs.take 0) lm) (nI tl (vs.take 0) lm)=fun _=>none:=by funext r;simp [cm,kV]
  rw [this];exact hm
 refine ⟨LI J,LM J,⟨_,0,rfl,by omega,Chg.refl _ _,hm0,rfl⟩,?_⟩
 intro _ i w14 hJ
 obtain ⟨i,hvs,hi,ck,mw,hj⟩:=hJ.at
 simp only [vj] at hvs
 subst hvs
 have cw:Chg Qaa w w14:=c13.trans' ck fun k e=>.inr (by omega)
 have s14:=ck.size
 have htl:(vs.take i).length≤1048576:=by rw [List.length_take];omega
 have hzero:∀r,kV (vs.take i) lm r=false→nV (vs.take i) lm r=0∧nE tl (vs.take i) lm r=0∧nI tl (vs.take i) lm r=0:=fun r hr=>by
  unfold kV at hr
  rw [List.any_eq_false] at hr
  have e1:(vs.take i).filter (fun v=>lm v==r)=[]:=List.filter_eq_nil_iff.2 fun a ha k=>hr a ha k
  have e2:(vs.take i).filter (fun v=>lm v==r&&(tl v).isEmpty)=[]:=List.filter_eq_nil_iff.2 fun a ha k=>hr a ha (Bool.and_eq_true_iff.1 k).1
  unfold nV nE nI
  rw [e1,e2];simp
 refine Qac (fun hlt=>?_) (fun hlt=>?_)<;>simp only [b1s] at hlt
 ·have hiL:i<vs.length:=by omega
  obtain ⟨x,hx⟩:∃x,vs[i]?=some x:=⟨_,List.getElem?_eq_getElem hiL⟩
  have hxV:=hs.lt x (List.mem_of_getElem? hx)
  have et:vs.take (i+1)=vs.take i++[x]:=by rw [List.take_add_one,hx];rfl
  have nxt:IntKind.wrap .i64 ((i:Int)+1)=((i+1:Nat):Int):=by rw [wrap64_in (by omega) (by omega)];omega
  rw [nxt]
  have b1:=Zau (vs:=vs.take i) (lm:=lm) (r:=lm x)
  have b2:=Zij (tl:=tl) (vs:=vs.take i) (lm:=lm) (r:=lm x) fun v hv=>hdeg v (by have:=hs.lt v (List.mem_of_mem_take hv);omega)
  have b3:=Q9g (tl:=tl) (vs:=vs.take i) (lm:=lm) (r:=lm x)
  have b4:=hdeg x (by omega)
  refine rdI (hv.nob cw) hx ((Q69 (h.nob cw) hxV).mono ?_)
  rintro r w19 ⟨rfl,rfl⟩
  refine ⟨_,_,rfl,Qaj (fun e=>absurd rfl e) (fun _=>(Zh2 (a:=1) (b:=((tl x).length:Nat)) (c:=0) (hub ck) hxV mw (hzero _) ⟨by omega,by omega⟩ ⟨by omega,by omega⟩ ⟨by omega,by omega⟩).mono ?_)⟩
  rintro r w22 ⟨rfl,c22,mw22⟩
  refine ⟨_,rfl,Qaj (fun e=>absurd rfl e) (fun _=>Qac (fun k=>?_) (fun k=>?_))⟩<;>simp only [b1s] at k
  ·have h0:tl x=[]:=List.length_eq_zero_iff.1 (by omega)
   refine (Zh2 (a:=0) (b:=0) (c:=1) (hub (ck.trans c22)) hxV mw22 (fun k=>by rw [Qab] at k;cases k) ⟨by rw [Qab];omega,by rw [Qab];omega⟩ ⟨by rw [Qab];omega,by rw [Qab];omega⟩ ⟨by rw [Qab];omega,by rw [Qab];omega⟩).mono ?_
   rintro r w25 ⟨rfl,c25,mw25⟩
   refine ⟨_,rfl,Qaj (fun e=>absurd rfl e) (fun _=>LI.again (k:=vs.length-(i+1)) ⟨i+1,rfl,by omega,(ck.trans c22).trans c25,?_,rfl⟩ (by rw [hj];omega))⟩
   rw [et,Zbk,Q6h,Zax,Q76 h0]
   simpa [Qab,Qhh] using mw25
  ·have h0:tl x≠[]:=fun e=>by rw [e] at k;simp at k
   refine ⟨Qbu _,Qac (fun e=>by rw [Qb4] at e;simp at e) (fun _=>LI.again (k:=vs.length-(i+1)) ⟨i+1,rfl,by omega,ck.trans c22,?_,rfl⟩ (by rw [hj];omega))⟩
   rw [et,Zbk,Q6h,Zax,Q75 h0]
   simpa [Qi8] using mw22
 ·obtain rfl:i=vs.length:=by omega
  rw [List.take_length] at mw hzero
  refine (Zl3 (h.nob cw) hM).mono ?_
  rintro r w28 ⟨b,l,c,X,rfl,c28,tf,hl,hX,hd⟩
  refine ⟨_,_,_,rfl,?_⟩
  have s28:=c28.size
  let J2:Nat→List Value→World→Prop:=fun j us w'=>∃i:Nat,us=[.int .i64 i]∧i≤l∧Chg (fun k=>k=m) w28 w'∧MW w'.heap m (cm (kV vs lm) (nV vs lm) (nE tl vs lm) fun r=>nI tl vs lm r+nF tl N i X lm r)∧j=l-i
  have hm1:MW w28.heap m (cm (kV vs lm) (nV vs lm) (nE tl vs lm) fun r=>nI tl vs lm r+nF tl N 0 X lm r):=by
   have:(fun r=>nI tl vs lm r+nF tl N 0 X lm r)=nI tl vs lm:=by funext r;simp [nF]
   rw [this];exact mw.nob c28
  refine ⟨LI J2,LM J2,⟨_,0,rfl,by omega,Chg.refl _ _,hm1,rfl⟩,?_⟩
  intro _ i w33 hJ2
  obtain ⟨i,hvs,hi,ck2,mw2,hj⟩:=hJ2.at
  simp only [vj] at hvs
  subst hvs
  have cw2:Chg Qaa w w33:=(cw.trans c28).trans' ck2 fun k e=>.inr (by omega)
  have hmlt:m<w14.heap.size:=by omega
  refine Qac (fun hlt=>?_) (fun hlt=>?_)<;>simp only [b1s] at hlt
  ·have hil:i<l:=by omega
   obtain ⟨d,hd1,hd2⟩:=hd i hil
   obtain ⟨d',o⟩:=hX.o i hil
   have hdl:=o.m d hd1
   have e0:(X i).headD 0=d:=by rw [List.headD_eq_head?_getD,hd2];rfl
   have hogV:=hlm.og hdl
   have nxt:IntKind.wrap .i64 ((i:Int)+1)=((i+1:Nat):Int):=by rw [wrap64_in (by omega) (by omega)];omega
   rw [nxt]
   have hx0:(X i)[0]?=some d:=by rw [←List.head?_eq_getElem?];exact hd2
   refine (tf.keep ck2 fun k e=>by
    have e':k=m:=e
    show k<w14.heap.size
    omega).rd hil fun eb ec va _ _=>rdI va hx0 ((Qw5 (h.nob cw2) (hvb.lt d hdl)).mono ?_)
   rintro r w40 ⟨rfl,c40⟩
   rw [if_pos hdl]
   have b1:=Zau (vs:=vs) (lm:=lm) (r:=lm (og tl N d))
   have b2:=Zij (tl:=tl) (vs:=vs) (lm:=lm) (r:=lm (og tl N d)) fun v hv=>hdeg v (by have:=hs.lt v hv;omega)
   have b3:=Q9g (tl:=tl) (vs:=vs) (lm:=lm) (r:=lm (og tl N d))
   have b4:=Zeg (tl:=tl) (N:=N) (j:=i) (X:=X) (lm:=lm) (r:=lm (og tl N d))
   have hkd:kV vs lm (lm (og tl N d))=true:=List.any_eq_true.2 ⟨og tl N d,hs.all _ hogV (fun e=>by have:=(Qis hdl).1;rw [e] at this;cases this),by simp⟩
   refine ⟨_,_,rfl,Qaj (fun e=>absurd rfl e) (fun _=>(Zh2 (a:=0) (b:=0) (c:=1) ((hub ((ck.trans c28.weak).trans ck2)).nob c40) hogV (mw2.nob c40) (fun k=>by rw [hkd] at k;cases k) ⟨by omega,by omega⟩ ⟨by omega,by omega⟩ ⟨by omega,by omega⟩).mono ?_)⟩
   rintro r w43 ⟨rfl,c43,mw43⟩
   refine ⟨_,rfl,Qaj (fun e=>absurd rfl e) (fun _=>LI.again (k:=l-(i+1)) ⟨i+1,rfl,by omega,(ck2.trans c40.weak).trans c43,?_,rfl⟩ (by rw [hj];omega))⟩
   have e1:upd (kV vs lm) (lm (og tl N d)) true=kV vs lm:=by rw [←hkd];exact Qi8 _ _
   have e2:(fun r=>nI tl vs lm r+nF tl N (i+1) X lm r)=upd (fun r=>nI tl vs lm r+nF tl N i X lm r) (lm (og tl N d)) (nI tl vs lm (lm (og tl N d))+nF tl N i X lm (lm (og tl N d))+1):=by
    funext r
    rw [Zaw,e0]
    unfold upd
    by_cases e:r=lm (og tl N d)
    ·rw [if_pos e,if_pos e,e];omega
    ·rw [if_neg e,if_neg e]
   rw [e2]
   rw [e1] at mw43
   simpa [Qi8] using mw43
  ·obtain rfl:i=l:=by omega
   exact ⟨m,lm,i,X,rfl,cw2,hlm,hX,hd,mw2,hl⟩
end
section
variable {w w':World} {T TD TL TM V E N:Nat} {tl:Nat→List Nat} {vs:List Nat} {vb:Option Addr} {vc:Nat}
set_option maxRecDepth 1000000 in
set_option maxHeartbeats 4000000 in
theorem Q6a {p:Option Addr} {Q:(Nat→Bool)→(Nat→Int)→(Nat→Int)→(Nat→Int)→Prop}
  (hb0:∀K A B C,Q K A B C→∀r,K r=true→(0≤A r∧A r≤1000000000000000)∧(0≤B r∧B r≤1000000000000000)∧(0≤C r∧C r≤1000000000000000))
  (hcon:Calls Tryz.prog 148 #[.pointer p,.slice vb vs.length vc] w fun r w'=>∃m K A B C,r=.returned (.tuple #[.map (some m),.nilIface])∧Chg Qaa w w'∧MW w'.heap m (cm K A B C)∧Q K A B C) :
  Calls Tryz.prog 64 #[.pointer p,.slice vb vs.length vc] w fun r w'=>∃z K A B C,r=.returned (.tuple #[.bool z,.nilIface])∧Chg Qaa w w'∧Q K A B C∧(z=true↔∀r,K r=true→A r-B r/2+C r=2):=by
 go_enter Tryz.func64,Tryz.ntmps64
 go_wp2_with (go_at_call 148;refine hcon.mono ?_;rintro e w4 ⟨m,K,A,B,C,rfl,c4,mw,hQ⟩;have hb:=hb0 K A B C hQ;obtain ⟨w5,hrg,⟨n0,mi⟩,c5⟩:=Zeh (P:=Tryz.prog) (t:=233) (kt:=3) (et:=92) mw (by kernel_rfl))
 let J:Nat→World→Prop:=fun n w'=>∃G,MI w'.heap m w4.heap.size n (cm K A B C) G∧(∀r,K r=true→G r→A r-B r/2+C r=2)∧Chg Qaa w w'
 go_loopw [] (fun w'=>∃n,J n w') (fun w'=>lst fun n=>J n w')
 case atStart=>exact ⟨n0,_,mi,fun r _ h=>h.elim,c4.trans c5⟩
 case round=>
  obtain ⟨k0,hk0⟩:=hrel
  have hJ:=(Q0q (p:=fun n=>J n wr) hk0).1
  generalize hmu:lst (fun n=>J n wr)=mu at *
  obtain ⟨G,mi,hG,cw⟩:=hJ
  have hmle:m<w4.heap.size:=mw.lt
  rcases Zin (P:=Tryz.prog) (ty:=0) mi with ⟨hrun,hall⟩ | ⟨k,v,n',w6,hMk,hrun,mi6,hlt,c6,hent⟩
  ·have hnx:∀ty,(Instr.next (.pointer (some ⟨w4.heap.size,0,none⟩)) false ty).run Tryz.prog wr=_:=fun _=>hrun
   go_wp2
   go_ret2
   refine ⟨true,K,A,B,C,rfl,cw,hQ,⟨fun _=>?_,fun _=>rfl⟩⟩
   intro r hr
   refine hG r hr (hall r (cnV (A r) (B r) (C r)) ?_)
   unfold cm;rw [hr];rfl
  ·have hK:K k=true∧v=cnV (A k) (B k) (C k):=by
    unfold cm at hMk
    cases hk:K k with
    | false=>rw [hk] at hMk;cases hMk
    | true=>rw [hk] at hMk;cases hMk;exact ⟨rfl,rfl⟩
   obtain ⟨hKk,rfl⟩:=hK
   obtain ⟨b1,b2,b3⟩:=hb k hKk
   have hnx:∀ty,(Instr.next (.pointer (some ⟨w4.heap.size,0,none⟩)) false ty).run Tryz.prog wr=_:=fun _=>hrun
   unfold cnV at hent hrun hnx
   go_wp2
   ·rename_i hne
    go_ret2
    have hs6:=c6.size
    refine ⟨false,K,A,B,C,rfl,(cw.trans' c6 fun i e=>.inr ?_).alloc _,hQ,⟨fun h=>(by cases h),fun h=>?_⟩⟩
    ·have:=c4.size;omega
    ·have:=h k hKk
     rw [this] at hne;simp at hne
   ·rename_i hne
    have hnew:J n' (w6.alloc (Obj.cells #[Value.int IntKind.i64 (A k),Value.int IntKind.i64 (B k),Value.int IntKind.i64 (C k),Value.int IntKind.i64 0] 92)):=by
     have c7:Chg Qaa w6 (w6.alloc (Obj.cells #[Value.int IntKind.i64 (A k),Value.int IntKind.i64 (B k),Value.int IntKind.i64 (C k),Value.int IntKind.i64 0] 92)):=(Chg.refl _ _).alloc _
     refine ⟨_,mi6.keep c7 ⟨fun h=>h,fun h=>h⟩,fun r hr hg=>?_,(cw.trans' c6 fun i e=>.inr (by have:=c4.size;omega)).trans c7⟩
     rcases hg with hg | rfl
     ·exact hG r hr hg
     ·simpa using hne
    go_roundw
    case rel=>exact ⟨n',hnew⟩
    case measure=>exact Nat.lt_of_le_of_lt (Q0q (p:=fun n=>J n (w6.alloc (Obj.cells #[Value.int IntKind.i64 (A k),Value.int IntKind.i64 (B k),Value.int IntKind.i64 (C k),Value.int IntKind.i64 0] 92))) hnew).2 hlt
theorem Zfs (h:TV w.heap T TD TL TM V E N tl) (hM:MP N tl) (hv:VA w vb vs.length 1 (ivs vs)) (hs:VS V tl vs):Calls Pg 64 #[.pointer (some ⟨T,0,none⟩),.slice vb vs.length vc] w fun r w'=>∃z,r=.returned (.tuple #[.bool z,errV 0])∧Chg Qaa w w'∧(z=true↔∀x,x∈dl tl N→vN tl N (og tl N x)-eN tl N (og tl N x)+fN tl N (og tl N x)=2):=by
 have hvb:=h.vb
 have hv1:=hvb.v1
 have hn:=hvb.n1
 have hlen:vs.length≤V:=Qbh hs.nd fun x hx=>hs.lt x hx
 have hdeg:∀v,v∈vs→(tl v).length≤2097152:=fun v hv=>by
  have hvN:v<N:=by have:=hs.lt v hv;omega
  have:(tl v).length≤2*N:=Qbh (hM.nodup hvN) fun x hx=>hM.lt x (Qa2.2 ⟨v,hvN,hx⟩)
  omega
 refine (Q6a (Q:=fun K A B C=>∃lm l X,LM' V N tl lm∧Fcs tl N l X∧(∀j,j<l→∃d,d∈X j∧(X j).head?=some d)∧l≤2*N∧K=kV vs lm∧A=nV vs lm∧B=nE tl vs lm∧C=fun r=>nI tl vs lm r+nF tl N l X lm r) (fun K A B C hQ r _=>?_) ((Zkv h hM hv hs).mono ?_)).mono ?_
 ·obtain ⟨lm,l,X,h1,h2,h3,h4,rfl,rfl,rfl,rfl⟩:=hQ
  have b1:=Zau (vs:=vs) (lm:=lm) (r:=r)
  have b2:=Zij (tl:=tl) (vs:=vs) (lm:=lm) (r:=r) hdeg
  have b3:=Q9g (tl:=tl) (vs:=vs) (lm:=lm) (r:=r)
  have b4:=Zeg (tl:=tl) (N:=N) (j:=l) (X:=X) (lm:=lm) (r:=r)
  refine ⟨⟨by omega,by omega⟩,⟨by omega,by omega⟩,?_,?_⟩
  ·show 0≤nI tl vs lm r+nF tl N l X lm r;omega
  ·show nI tl vs lm r+nF tl N l X lm r≤_;omega
 ·rintro r w4 ⟨m,lm,l,X,rfl,c,h1,h2,h3,h4,h5⟩
  exact ⟨m,_,_,_,_,rfl,c,h4,lm,l,X,h1,h2,h3,h5,rfl,rfl,rfl,rfl⟩
 ·rintro r w4 ⟨z,K,A,B,C,rfl,c,⟨lm,l,X,h1,h2,h3,h4,rfl,rfl,rfl,rfl⟩,hz⟩
  refine ⟨z,rfl,c,hz.trans ?_⟩
  rw [←Q8e hM hv1.2 hs h1 h2 h3]
  constructor
  ·intro k v hv
   exact k (lm v) (List.any_eq_true.2 ⟨v,hv,by simp⟩)
  ·intro k r hr
   obtain ⟨v,hv,e⟩:=List.any_eq_true.1 hr
   rw [beq_iff_eq] at e
   subst e
   exact k v hv
end
section
variable {w w':World} {T TD TL TM V E N d e v u n j k:Nat} {be:Int} {tl:Nat→List Nat} {rb:Option Addr} {rc:Nat} {bad:Nat→Prop}
def tlk (tl:Nat→List Nat) (j k:Nat):Nat→List Nat:=fun v=>if v<j then tl v else if v=j then (tl j).take k else []
theorem Zhr:tlk tl 0 0=fun _=>[]:=by
 funext v;unfold tlk
 rw [if_neg (by omega)];split<;>simp
theorem Q3m (h:k=(tl j).length):tlk tl j k=tlk tl (j+1) 0:=by
 funext v;unfold tlk
 by_cases h1:v<j
 ·rw [if_pos h1,if_pos (by omega)]
 ·rw [if_neg h1]
  by_cases h2:v=j
  ·subst h2;rw [if_pos rfl,if_pos (by omega),h,List.take_length]
  ·rw [if_neg h2,if_neg (by omega)];split<;>simp
theorem Q50 (h:∀v,n≤v→tl v=[]):tlk tl n 0=tl:=by
 funext v;unfold tlk
 by_cases h1:v<n
 ·rw [if_pos h1]
 ·rw [if_neg h1,h v (by omega)];split<;>simp
theorem Q04:tlk tl j k j=(tl j).take k:=by unfold tlk;rw [if_neg (by omega),if_pos rfl]
theorem Zhq (hn:(tl j).Nodup) (hk:(tl j)[k]?=some d) (hb:(k=0∧be=-1)∨∃c,(tl j)[k-1]?=some c∧0<k∧be=(c:Nat)):put1 (tlk tl j k) j be d=tlk tl j (k+1):=by
 funext v
 by_cases h2:v=j
 ·subst h2
  rw [Qzx,Q04,Q04,List.take_add_one,hk]
  rcases hb with ⟨rfl,rfl⟩ | ⟨c,hc,h0,rfl⟩
  ·rfl
  ·have e1:(tl v).take k=(tl v).take (k-1)++[c]:=by
    have:k=k-1+1:=by omega
    rw [this,List.take_add_one,hc];rfl
   rw [e1,Q4g (B:=[]) (fun x hx e=>?_) rfl]
   ·simp
   ·have hxc:x=c:=by omega
    subst hxc
    obtain ⟨i,hi⟩:=List.getElem?_of_mem hx
    have hil:=(List.getElem?_eq_some_iff.1 hi).1
    rw [List.length_take] at hil
    rw [List.getElem?_take,if_pos (by omega)] at hi
    have:=(List.getElem?_inj (by omega) hn).1 (hi.trans hc.symm)
    omega
 ·rw [Qsr h2]
  unfold tlk
  rw [if_neg h2,if_neg h2]
theorem Q1g (hM:ND N tl) (hj:j<N):d∈dl (tlk tl j k) N↔(∃v,v<j∧d∈tl v)∨d∈(tl j).take k:=by
 rw [Qa2]
 constructor
 ·rintro ⟨v,hv,h⟩
  unfold tlk at h
  by_cases h1:v<j
  ·rw [if_pos h1] at h;exact .inl ⟨v,h1,h⟩
  ·rw [if_neg h1] at h
   by_cases h2:v=j
   ·rw [if_pos h2] at h;exact .inr h
   ·rw [if_neg h2] at h;cases h
 ·rintro (⟨v,h1,h⟩ | h)
  ·exact ⟨v,by omega,by unfold tlk;rw [if_pos h1];exact h⟩
  ·exact ⟨j,hj,by rw [Q04];exact h⟩
theorem TF.rd0 {w₀:World} {b:Option Addr} (h:TF w₀ bad b n tl) (c:Chg Qaa w₀ w) (hv:v<n) {K:Option Addr→Nat→Nat→Prop} (k:∀eb ec,VA w₀ eb (tl v).length 1 (ivs (tl v))→Okb bad (tl v).length eb→(tl v).length≤ec→K eb (tl v).length ec):ixS b n (v:Int) 1 fun a=>ldS a w K:=by
 obtain ⟨V,h1,h2,h3⟩:=h
 obtain ⟨eb,ec,e1,k1,k2,k3⟩:=h3 v hv
 refine (h1.nob c).ix hv fun g o e cs r _ hc=>?_
 refine Qai (x:=eb) (l:=(tl v).length) (c:=ec) r ?_ (k eb ec k1 k2 k3)
 have:=hc 0 (by omega)
 rwa [Nat.mul_one,Nat.add_zero,Nat.add_zero,Ze9 hv,e1] at this
theorem Zmp (h:TV w.heap T TD TL TM V E N (fun _=>[])) (hM:MP N tl) (hR:TF w bad rb n tl) (hn:n≤V) (hb:∀v,n≤v→tl v=[]) (hlt:∀d,d∈dl tl N→d<2*E) :
  Calls Pg 146 #[.pointer (some ⟨T,0,none⟩),.slice rb n rc] w fun r w'=>r=.returned (.bool false)∧Chg Qaa w w':=by
 refine (Qkx _ _ _ _ _ (fun v' w'=>v'=.bool false∧Chg Qaa w w') ?_).mono rti
 unfold Qiz nr
 have hvb:=h.vb
 have hv1:=hvb.v1
 have he1:=hvb.e1
 have hN:=hvb.n1
 obtain ⟨o,nx,pv,ls,ms,hr,hq,_⟩:=h
 refine pt_i (Qai hr.r rfl ⟨by omega,Int.le_refl _,by omega,Qak fun A w5 hA c5 r5=>?_⟩)
 rw [Int.toNat_natCast] at r5 ⊢
 have r5':Row w5.heap A 4 (recs (bc fun _=>false) (2*E)):=by rw [Qas] at r5;exact r5
 have s5:=c5.size
 have wA:∀{w'},Chg (fun k=>k=A) w5 w'→Chg Qaa w w':=fun {w'} c=>c5.trans' c fun k e=>.inr (by omega)
 let J:Nat→List Value→World→Prop:=fun jj us w'=>∃i:Nat,us=[.int .i64 i]∧i≤n∧Chg (fun k=>k=A) w5 w'∧Row w'.heap A 4 (recs (bc fun x=>decide (x∈dl (tlk tl i 0) N)) (2*E))∧jj=n-i
 have d0:dl (tlk tl 0 0) N=[]:=by rw [Zhr];unfold dl;simp
 refine ⟨LI J,LM J,⟨_,0,rfl,by omega,Chg.refl _ _,by simpa [d0] using r5',rfl⟩,?_⟩
 intro _ i w9 hJ
 obtain ⟨i,hvs,hi,ck,rk,hj⟩:=hJ.at
 simp only [vj] at hvs
 subst hvs
 refine Qac (fun hlt1=>?_) (fun hlt1=>?_)<;>simp only [b1s] at hlt1
 ·have hin:i<n:=by omega
  have hiN:i<N:=by omega
  have hll:(tl i).length≤2*N:=Qbh (hM.nodup hiN) fun x hx=>hM.lt x (Qa2.2 ⟨i,hiN,hx⟩)
  refine hR.rd0 (wA ck) hin fun eb ec va ok hc=>?_
  let J2:Nat→List Value→World→Prop:=fun jj us w'=>∃k:Nat,us=[.int .i64 k]∧k≤(tl i).length∧Chg (fun k=>k=A) w5 w'∧Row w'.heap A 4 (recs (bc fun x=>decide (x∈dl (tlk tl i k) N)) (2*E))∧jj=(tl i).length-k
  refine ⟨LI J2,LM J2,⟨_,0,rfl,by omega,ck,rk,rfl⟩,?_⟩
  intro _ k w15 hJ2
  obtain ⟨k,hvs,hk,ck2,rk2,hj2⟩:=hJ2.at
  simp only [vj] at hvs
  subst hvs
  refine Qac (fun hlt2=>?_) (fun hlt2=>?_)<;>simp only [b1s] at hlt2
  ·obtain ⟨x,hx⟩:∃x,(tl i)[k]?=some x:=⟨_,List.getElem?_eq_getElem (by omega)⟩
   have hxm:=List.mem_of_getElem? hx
   have hxd:=Qa2.2 ⟨i,hiN,hxm⟩
   have hxE:=hlt x hxd
   have hno:x∉dl (tlk tl i k) N:=by
    rw [Q1g hM.toND hiN]
    rintro (⟨u,hu,h2⟩ | h2)
    ·have:=hM.uniq (by omega) hiN h2 hxm;omega
    ·obtain ⟨q,hq⟩:=List.getElem?_of_mem h2
     have hql:=(List.getElem?_eq_some_iff.1 hq).1
     rw [List.length_take] at hql
     rw [List.getElem?_take,if_pos (by omega)] at hq
     have:=(List.getElem?_inj (by omega) (hM.nodup hiN)).1 (hq.trans hx.symm)
     omega
   refine rdI (va.nob (wA ck2)) hx (Qac (fun k1=>by simp only [b1s] at k1;omega) (fun _=>Qac (fun k1=>by simp only [b1s] at k1;omega) (fun _=>Qat hxE (Qqt (n:=false) rk2 ?_ (Qac (fun k1=>by cases k1) (fun _=>Qat hxE ?_))))))
   ·rw [Nat.zero_add,Nat.mul_one,Qj0 hxE,decide_eq_false hno]
   rw [Nat.zero_add,Nat.mul_one,wrap64_in (by omega) (by omega)]
   refine Qao rk2 (by rw [Qah (sz:=1) _ (fun _=>rfl)];omega) rfl fun w21 c21 r21=>?_
   rw [Qz5 hxE] at r21
   refine LI.again (k:=(tl i).length-(k+1)) ⟨k+1,rfl,by omega,ck2.trans c21,?_,rfl⟩ (by rw [hj2];omega)
   refine (Qbb fun y _=>?_) ▸ r21
   unfold bc
   congr 2
   unfold upd
   have et:(tl i).take (k+1)=(tl i).take k++[x]:=by rw [List.take_add_one,hx];rfl
   have m1:=Q1g (d:=y) (k:=k) hM.toND hiN
   have m2:=Q1g (d:=y) (k:=k+1) hM.toND hiN
   rw [et,List.mem_append,List.mem_singleton] at m2
   by_cases e:y=x
   ·rw [if_pos e];exact (decide_eq_true (m2.2 (.inr (.inr e)))).symm
   ·rw [if_neg e]
    refine decide_eq_decide.2 ?_
    rw [m1,m2]
    exact ⟨fun k=>k.imp_right .inl,fun k=>k.imp_right fun k=>k.resolve_right e⟩
  ·obtain rfl:k=(tl i).length:=by omega
   rw [Q3m rfl] at rk2
   rw [wrap64_in (by omega) (by omega)]
   exact LI.again (k:=n-(i+1)) ⟨i+1,rfl,by omega,ck2,rk2,rfl⟩ (by rw [hj];omega)
 ·obtain rfl:i=n:=by omega
  rw [Q50 hb] at rk
  let J3:Nat→List Value→World→Prop:=fun jj us w'=>∃k:Nat,us=[.int .i64 k]∧k≤2*E∧w'=w9∧jj=2*E-k
  refine ⟨LI J3,LM J3,⟨_,0,rfl,by omega,rfl,rfl⟩,?_⟩
  intro _ k w25 hJ3
  obtain ⟨k,hvs,hk,rfl,hj3⟩:=hJ3.at
  simp only [vj] at hvs
  subst hvs
  refine Qac (fun hlt3=>?_) (fun hlt3=>?_)<;>simp only [b1s] at hlt3
  ·have hkE:k<2*E:=by omega
   have htE:Core.tw k<2*E:=by unfold Core.tw;split<;>omega
   rw [xor1 (by omega)]
   refine Qat hkE (Qqt (n:=decide (k∈dl tl N)) rk (by rw [Nat.zero_add,Nat.mul_one];exact Qj0 hkE) (Qat htE (Qqt (n:=decide (Core.tw k∈dl tl N)) rk (by rw [Nat.zero_add,Nat.mul_one];exact Qj0 htE) (Qac (fun k1=>?_) (fun _=>?_)))))
   ·exfalso
    have:decide (k∈dl tl N)=decide (Core.tw k∈dl tl N):=decide_eq_decide.2 ⟨hM.tw k,fun h=>by have:=hM.tw _ h;rwa [Q02] at this⟩
    rw [this] at k1;simp at k1
   ·rw [wrap64_in (by omega) (by omega)]
    exact LI.again (k:=2*E-(k+1)) ⟨k+1,rfl,by omega,rfl,rfl⟩ (by rw [hj3];omega)
  ·refine pt_i ?_
   rw [Qad]
   refine Qai ((wA ck).row (fun h=>h) hr.r) rfl ⟨?_,wA ck⟩
   congr 1
   exact decide_eq_false (by omega)
theorem Zfk (hV:1≤V∧V≤N) (hE:1≤E∧E≤N) (hN:N≤1048576) (hM:MP N tl) (hR:TF w bad rb n tl) (hn:n≤V) (hb:∀v,n≤v→tl v=[]) (hlt:∀d,d∈dl tl N→d<2*E) :
  Calls Pg 63 #[.int .i64 (V:Nat),.int .i64 (E:Nat),.slice rb n rc] w fun r w'=>∃T TD TL TM,r=.returned (.tuple #[.pointer (some ⟨T,0,none⟩),errV 0])∧Chg Qaa w w'∧(w.heap.size≤T∧w.heap.size≤TD∧w.heap.size≤TL∧w.heap.size≤TM)∧TV w'.heap T TD TL TM V E N tl:=by
 refine (Qtd _ _ _ _ _).go ?_
 unfold Qsg nr
 refine (Zmq hV hE hN).mono ?_
 rintro r w5 ⟨T,TD,TL,TM,rfl,c5,hT,tv⟩
 refine ⟨_,_,rfl,Qaj (fun e=>absurd rfl e) (fun _=>(Zmp tv hM (hR.nob c5) hn hb hlt).mono ?_)⟩
 rintro r w8 ⟨rfl,c8⟩
 refine ⟨_,rfl,Qac (fun k=>by cases k) (fun _=>?_)⟩
 have c58:=c5.trans c8
 have s8:=c58.size
 have wA:∀{w'},Chg (fun k=>k=TD∨k=TL∨k=TM) w8 w'→Chg Qaa w w':=fun {w'} c=>c58.trans' c fun k e=>.inr (by omega)
 let J:Nat→List Value→World→Prop:=fun jj us w'=>∃i:Nat,us=[.int .i64 i]∧i≤n∧Chg (fun k=>k=TD∨k=TL∨k=TM) w8 w'∧TV w'.heap T TD TL TM V E N (tlk tl i 0)∧jj=n-i
 refine ⟨LI J,LM J,⟨_,0,rfl,by omega,Chg.refl _ _,by rw [Zhr];exact tv.nob c8,rfl⟩,?_⟩
 intro _ i w13 hJ
 obtain ⟨i,hvs,hi,ck,tk,hj⟩:=hJ.at
 simp only [vj] at hvs
 subst hvs
 refine Qac (fun hlt1=>?_) (fun hlt1=>?_)<;>simp only [b1s] at hlt1
 ·have hin:i<n:=by omega
  have hiN:i<N:=by omega
  have hll:(tl i).length≤2*N:=Qbh (hM.nodup hiN) fun x hx=>hM.lt x (Qa2.2 ⟨i,hiN,hx⟩)
  refine hR.rd0 (wA ck) hin fun eb ec va ok hc=>?_
  let J2:Nat→List Value→World→Prop:=fun jj us w'=>∃(k:Nat) (be:Int),us=[.int .i64 be,.int .i64 k]∧k≤(tl i).length∧((k=0∧be=-1)∨∃c:Nat,(tl i)[k-1]?=some c∧0<k∧be=(c:Nat))∧Chg (fun k=>k=TD∨k=TL∨k=TM) w8 w'∧TV w'.heap T TD TL TM V E N (tlk tl i k)∧jj=(tl i).length-k
  refine ⟨LI J2,LM J2,⟨_,0,-1,rfl,by omega,.inl ⟨rfl,rfl⟩,ck,tk,rfl⟩,?_⟩
  intro _ be k w20 hJ2
  obtain ⟨k,be,hvs,hk,hbe,ck2,tk2,hj2⟩:=hJ2.at
  simp only [vj] at hvs
  obtain ⟨rfl,rfl⟩:=hvs
  refine Qac (fun hlt2=>?_) (fun hlt2=>?_)<;>simp only [b1s] at hlt2
  ·obtain ⟨x,hx⟩:∃x,(tl i)[k]?=some x:=⟨_,List.getElem?_eq_getElem (by omega)⟩
   have hxm:=List.mem_of_getElem? hx
   have hxd:=Qa2.2 ⟨i,hiN,hxm⟩
   have hxE:=hlt x hxd
   have hno:x∉dl (tlk tl i k) N:=by
    rw [Q1g hM.toND hiN]
    rintro (⟨u,hu,h2⟩ | h2)
    ·have:=hM.uniq (by omega) hiN h2 hxm;omega
    ·obtain ⟨q,hq⟩:=List.getElem?_of_mem h2
     have hql:=(List.getElem?_eq_some_iff.1 hq).1
     rw [List.length_take] at hql
     rw [List.getElem?_take,if_pos (by omega)] at hq
     have:=(List.getElem?_inj (by omega) (hM.nodup hiN)).1 (hq.trans hx.symm)
     omega
   refine rdI (va.nob (wA ck2)) hx ?_
   rw [wrap32_in (by omega) (by omega),wrap64_in (by omega) (by omega)]
   refine (Zmo tk2 (by omega) hno hxE ?_).mono ?_
   ·rcases hbe with ⟨rfl,rfl⟩ | ⟨c,h1,h2,rfl⟩
    ·right;refine ⟨rfl,.inl ?_⟩;rw [Q04];rfl
    ·left;refine ⟨c,?_,rfl⟩
     rw [Q04,List.mem_take_iff_getElem]
     obtain ⟨h3,h4⟩:=List.getElem?_eq_some_iff.1 h1
     exact ⟨k-1,by omega,h4⟩
   ·rintro r w23 ⟨rfl,tw⟩
    rw [Zhq (hM.nodup hiN) hx hbe] at tw
    exact ⟨rfl,LI.again (k:=(tl i).length-(k+1)) ⟨k+1,x,rfl,by omega,.inr ⟨x,by simpa using hx,by omega,rfl⟩,ck2.trans tw.c,tw.a,rfl⟩ (by rw [hj2];omega)⟩
  ·obtain rfl:k=(tl i).length:=by omega
   rw [Q3m rfl] at tk2
   rw [wrap64_in (by omega) (by omega)]
   exact LI.again (k:=n-(i+1)) ⟨i+1,rfl,by omega,ck2,tk2,rfl⟩ (by rw [hj];omega)
 ·obtain rfl:i=n:=by omega
  rw [Q50 hb] at tk
  exact ⟨T,TD,TL,TM,rfl,wA ck,hT,tk⟩
end
end Core
end Go.Proofs.YtfeekmmfdkfgmaaGreatDoor
