/-
The reference of layer 10: lists of darts for each vertex; darts found, put, taken out.
Conditions: those that each theorem states.
-/
import Derived.Test.YtpmicakdjhoafaaGreatDoorGCoreC
import Derived.Test.YtpmicakdjhoafaaGreatDoorGMem
import Derived.Test.YtpmicakdjhoafaaGreatDoorShPlaitref10
import Derived.Test.YtpmicakdjhoafaaGreatDoorShPlaitref16
set_option linter.unusedVariables false
set_option linter.unusedSimpArgs false
namespace Go.Proofs.YtpmicakdjhoafaaGreatDoor
open Go Go.RowKit
theorem sts_go {A:Nat} {ty:TypeId}:∀(vs cs pre:List Value) (w:World) (K:World→Prop),Row w.heap A ty (pre++cs)→vs.length=cs.length→(∀v∈vs,oneC v=true)→(∀w',Chg (·=A) w w'→Row w'.heap A ty (pre++vs)→K w')→sts ⟨A,0,none⟩ pre.length vs w K
 | [],cs,pre,w,K,r,hl,_,k=>by
  obtain rfl:cs=[]:=List.length_eq_zero_iff.1 hl.symm
  unfold sts;exact k w (Chg.refl _ _) r
 | v::vs,[],pre,w,K,r,hl,_,k=>by cases hl
 | v::vs,c::cs,pre,w,K,r,hl,h1,k=>by
  have go:sto ⟨A,pre.length,none⟩ v w fun w'=>sts ⟨A,0,none⟩ (pre.length+1) vs w' K:=by
   refine Qdb r (by simp) (h1 v (by simp)) fun w1 c1 r1=>?_
   have e1:(pre++c::cs).set pre.length v=(pre++[v])++cs:=by
    rw [List.set_append_right _ _ (Nat.le_refl _)];simp
   rw [e1] at r1
   have:=sts_go vs cs (pre++[v]) w1 K r1 (by simpa using hl) (fun u hu=>h1 u (List.mem_cons_of_mem _ hu)) fun w2 c2 r2=>k w2 (c1.trans c2) (by simpa using r2)
   rwa [List.length_append] at this
  cases pre with
  | nil=>exact go
  | cons p pre=>
   show sto (Addr.add ⟨A,0,none⟩ (pre.length+1)) v w fun w'=>sts ⟨A,0,none⟩ (pre.length+2) vs w' K
   rw [Qaf,Nat.zero_add];exact go
theorem Qr1 {A:Nat} {ty:TypeId} {vs cs:List Value} {w:World} {K:World→Prop} (r:Row w.heap A ty cs) (hl:vs.length=cs.length) (h1:∀v∈vs,oneC v=true) (k:∀w',Chg (·=A) w w'→Row w'.heap A ty vs→K w'):sts ⟨A,0,none⟩ 0 vs w K:=
 sts_go vs cs [] w K r hl h1 k
theorem kps_go {A:Nat} {ty:TypeId}:∀(vs pre:List Value) (w:World) (K:Prop),Row w.heap A ty (pre++vs)→K→kps w ⟨A,0,none⟩ pre.length vs K
 | [],pre,w,K,r,k=>by unfold kps;exact k
 | v::vs,pre,w,K,r,k=>by
  have h0:w.cell? ⟨A,pre.length,none⟩=some v:=by rw [r.cell];simp
  have h1:=kps_go vs (pre++[v]) w K (by simpa using r) k
  rw [List.length_append] at h1
  cases pre with
  | nil=>exact ⟨h0,h1⟩
  | cons p pre=>
   show w.cell? (Addr.add ⟨A,0,none⟩ (pre.length+1))=some v∧kps w ⟨A,0,none⟩ (pre.length+2) vs K
   rw [Qaf,Nat.zero_add];exact ⟨h0,h1⟩
theorem Qul {A:Nat} {ty:TypeId} {vs:List Value} {w:World} {K:Prop} (r:Row w.heap A ty vs) (k:K):kps w ⟨A,0,none⟩ 0 vs K:=kps_go vs [] w K r k
namespace Core
open Go.Proofs.YtpmicakdjhoafaaGreatDoor.Seq Go.Proofs.YtpmicakdjhoafaaGreatDoor.Cut Go.Proofs.YtpmicakdjhoafaaGreatDoor.Web
theorem Qis {A:Nat} {ty:TypeId} {n:Int} {b:Option Addr} {l c:Nat} {w:World} {K:Int→Option Addr→Nat→Nat→Prop} (r:Row w.heap A ty [.int .i64 n,.slice b l c]) (k:K n b l c):Qad ⟨A,0,none⟩ w K:=
 Qaj r rfl (Qba r rfl k)
theorem Quz:ET Pg Qbp Qam 1 24:=ET.of (by kernel_rfl) (by kernel_rfl)
def Okb (bad:Nat→Prop) (l:Nat) (b:Option Addr):Prop:=∀g,0<l→bk b=some g→¬bad g
def LA (w:World) (bad:Nat→Prop) (v:Value) (A:List Nat):Prop:=∃b c,v=.slice b A.length c∧VA w b A.length 1 (ivs A)∧Okb bad A.length b∧A.length≤c
def TF (w:World) (bad:Nat→Prop) (b:Option Addr) (N:Nat) (tl:Nat→List Nat):Prop:=∃V:Nat→Value,VA w b N 1 (recs (fun i=>[V i]) N)∧Okb bad N b∧∀i,i<N→LA w bad (V i) (tl i)
section
variable {w w':World} {bad:Nat→Prop} {b sb:Option Addr} {l c sc N v d e j:Nat} {E x be:Int} {A:List Nat} {V:Value} {tl:Nat→List Nat} {S:Nat→Prop}
theorem Qwi:(ivs A).length=A.length:=List.length_map ..
theorem ivs_get (h:A[j]?=some d):(ivs A)[j]?=some (.int .i64 d):=by unfold ivs;rw [List.getElem?_map,h];rfl
theorem Qum:∀u∈ivs A,oneC u=true:=by intro u hu;obtain ⟨x,_,rfl⟩:=List.mem_map.1 hu;rfl
theorem LA.keep (h:LA w bad V A) (k:Chg S w w') (hS:∀i,S i→bad i):LA w' bad V A:=by
 obtain ⟨b,c,rfl,h1,h2,h3⟩:=h
 exact ⟨b,c,rfl,h1.keep k fun g hl hg hs=>h2 g hl hg (hS g hs),h2,h3⟩
theorem TF.keep (h:TF w bad b N tl) (k:Chg S w w') (hS:∀i,S i→bad i):TF w' bad b N tl:=by
 obtain ⟨V,h1,h2,h3⟩:=h
 exact ⟨V,h1.keep k fun g hl hg hs=>h2 g hl hg (hS g hs),h2,fun i hi=>(h3 i hi).keep k hS⟩
theorem TF.nob (h:TF w bad b N tl) (k:Chg Qac w w'):TF w' bad b N tl:=h.keep k fun _ h=>h.elim
theorem LA.nob (h:LA w bad V A) (k:Chg Qac w w'):LA w' bad V A:=h.keep k fun _ h=>h.elim
theorem V_len {V:Nat→Value} (x:Nat):([V x]:List Value).length=1:=rfl
theorem V_get {V:Nat→Value} (h:v<N):(recs (fun i=>[V i]) N)[v]?=some (V v):=by
 have:=Ql4 (k:=0) (fun i=>[V i]) V_len h (by omega)
 rwa [Nat.mul_one,Nat.add_zero] at this
theorem LA.weak {bad':Nat→Prop} (h:LA w bad V A) (k:∀i,bad' i→bad i):LA w bad' V A:=by
 obtain ⟨b,c,rfl,h1,h2,h3⟩:=h
 exact ⟨b,c,rfl,h1,fun g hl hg hb=>h2 g hl hg (k g hb),h3⟩
theorem TF.weak {bad':Nat→Prop} (h:TF w bad b N tl) (k:∀i,bad' i→bad i):TF w bad' b N tl:=by
 obtain ⟨V,h1,h2,h3⟩:=h
 exact ⟨V,h1,fun g hl hg hb=>h2 g hl hg (k g hb),fun i hi=>(h3 i hi).weak k⟩
theorem LA.old {n:Nat} (h:LA w bad V A):LA w (fun k=>bad k∨(w.heap.size≤k∧k<n)) V A:=by
 obtain ⟨b,c,rfl,h1,h2,h3⟩:=h
 refine ⟨b,c,rfl,h1,fun g hl hg hb=>?_,h3⟩
 obtain ⟨g2,e2,hlt⟩:=h1.blk hl
 rw [e2] at hg
 cases hg
 exact hb.elim (h2 _ hl e2) fun k=>by omega
theorem TF.old {n:Nat} (h:TF w bad b N tl):TF w (fun k=>bad k∨(w.heap.size≤k∧k<n)) b N tl:=by
 obtain ⟨V,h1,h2,h3⟩:=h
 refine ⟨V,h1,fun g hl hg hb=>?_,fun i hi=>(h3 i hi).old⟩
 obtain ⟨g2,e2,hlt⟩:=h1.blk hl
 rw [e2] at hg
 cases hg
 exact hb.elim (h2 _ hl e2) fun k=>by omega
theorem TF.rd (h:TF w bad b N tl) (hv:v<N) {K:Option Addr→Nat→Nat→Prop} (k:∀eb ec,VA w eb (tl v).length 1 (ivs (tl v))→Okb bad (tl v).length eb→(tl v).length≤ec→K eb (tl v).length ec):ixS b N (v:Int) 1 fun a=>ldS a w K:=by
 obtain ⟨V,h1,h2,h3⟩:=h
 obtain ⟨eb,ec,e1,k1,k2,k3⟩:=h3 v hv
 refine h1.ix hv fun g o e cs r _ hc=>?_
 refine Qba (x:=eb) (l:=(tl v).length) (c:=ec) r ?_ (k eb ec k1 k2 k3)
 have:=hc 0 (by omega)
 rwa [Nat.mul_one,Nat.add_zero,Nat.add_zero,V_get hv,e1] at this
theorem rdI (h:VA w b A.length 1 (ivs A)) (hd:A[j]?=some d) {K:Int→Prop} (k:K d):ixS b A.length (j:Int) 1 fun a=>ldI .i64 a w K:=by
 have hj:j<A.length:=(List.getElem?_eq_some_iff.1 hd).1
 refine h.ix hj fun g o e cs r _ hc=>Qaj (n:=(d:Int)) r ?_ k
 have:=hc 0 (by omega)
 rwa [Nat.mul_one,Nat.add_zero,Nat.add_zero,ivs_get hd] at this
def FD (tl:Nat→List Nat) (N:Nat) (x z i:Int):Prop:=(∃v j d:Nat,z=v∧i=j∧v<N∧(tl v)[j]?=some d∧(d:Int)=x)∨(z=-1∧i=-1∧∀v,v<N→∀d∈tl v,(d:Int)≠x)
theorem FD.on {z i:Int} (nd:ND N tl) (h:FD tl N (d:Nat) z i) (hd:d∈dl tl N):∃j:Nat,z=(og tl N d:Nat)∧i=j∧(tl (og tl N d))[j]?=some d:=by
 rcases h with ⟨v,j,d',rfl,rfl,hv,h1,h2⟩ | ⟨_,_,h⟩
 ·obtain rfl:d'=d:=by omega
  have:og tl N d'=v:=nd.ogE hv (List.mem_of_getElem? h1)
  rw [this];exact ⟨j,rfl,rfl,h1⟩
 ·obtain ⟨v,hv,h1⟩:=Qbq.1 hd
  exact absurd rfl (h v hv d h1)
theorem FD.off {z i:Int} (h:FD tl N x z i) (hd:∀d∈dl tl N,(d:Int)≠x):z=-1∧i=-1:=by
 rcases h with ⟨v,j,d',rfl,rfl,hv,h1,h2⟩ | ⟨h1,h2,_⟩
 ·exact absurd h2 (hd d' (Qbq.2 ⟨v,hv,List.mem_of_getElem? h1⟩))
 ·exact ⟨h1,h2⟩
theorem Qw6 (nd:ND N tl) (hv:v<N):(tl v).length≤2*N:=Qjj (nd.nodup hv) fun x hx=>nd.lt x (Qbq.2 ⟨v,hv,hx⟩)
theorem Qto (h:TF w bad b N tl) (nd:ND N tl) (hN:N≤1048576):Calls Pg Qau #[.agg #[.int .i64 E,.slice b N c],.int .i64 x] w fun r w'=>∃z i,r=.returned (.tuple #[.int .i64 z,.int .i64 i])∧Chg Qac w w'∧FD tl N x z i:=by
 refine (Qpj _ _ _ _ _ _ (fun v' w'=>∃z i,v'=.tuple #[.int .i64 z,.int .i64 i]∧Chg Qac w w'∧FD tl N x z i) ?_).mono (by rintro e w' ⟨v,rfl,z,i,rfl,k⟩;exact ⟨z,i,rfl,k⟩)
 unfold Qln
 refine Qa2 fun A w1 _ c1 r1=>?_
 have h1:=h.nob c1
 let J:Nat→List Value→World→Prop:=fun j vs w'=>∃i:Nat,vs=[.int .i64 i]∧i≤N∧w'=w1∧(∀v,v<i→∀d∈tl v,(d:Int)≠x)∧j=N-i
 refine ⟨LI J,LM J,⟨_,0,rfl,by omega,rfl,fun v hv=>by omega,rfl⟩,?_⟩
 intro _ i w2 hJ
 obtain ⟨i,hvs,hi,rfl,hno,hj⟩:=hJ.at
 simp only [List.cons.injEq,Value.int.injEq,and_true,true_and] at hvs
 subst hvs
 rw [Qaf]
 refine Qba r1 rfl (Qag (fun hc=>?_) (fun hc=>?_))<;>simp only [b1s] at hc
 ·have hiN:i<N:=by omega
  have hlen:=Qw6 nd hiN
  let J2:Nat→List Value→World→Prop:=fun j vs w'=>∃k:Nat,vs=[.int .i64 k]∧k≤(tl i).length∧w'=w2∧(∀d∈(tl i).take k,(d:Int)≠x)∧j=(tl i).length-k
  refine ⟨LI J2,LM J2,⟨_,0,rfl,by omega,rfl,by simp,rfl⟩,?_⟩
  intro _ k w3 hJ2
  obtain ⟨k,hvs,hk,rfl,hno2,hj2⟩:=hJ2.at
  simp only [List.cons.injEq,Value.int.injEq,and_true,true_and] at hvs
  subst hvs
  refine Qba r1 rfl (h1.rd hiN fun eb ec k1 k2 k3=>Qag (fun hc2=>?_) (fun hc2=>?_))<;>simp only [b1s] at hc2
  ·have hk':k<(tl i).length:=by omega
   refine Qba r1 rfl (h1.rd hiN fun eb ec k1 k2 k3=>?_)
   obtain ⟨d,hd⟩:∃d,(tl i)[k]?=some d:=⟨_,List.getElem?_eq_getElem hk'⟩
   refine rdI k1 hd (Qag (fun hc3=>?_) (fun hc3=>?_))<;>simp only [b1s] at hc3
   ·exact ⟨_,_,rfl,c1,.inl ⟨i,k,d,rfl,rfl,hiN,hd,hc3⟩⟩
   ·rw [wrap64_in (by omega) (by omega)]
    refine LI.again (k:=(tl i).length-(k+1)) ⟨k+1,rfl,by omega,rfl,fun y hy=>?_,rfl⟩ (by rw [hj2];omega)
    rw [List.take_add_one,hd,List.mem_append] at hy
    rcases hy with hy | hy
    ·exact hno2 y hy
    ·simp at hy;rw [hy];exact hc3
  ·rw [wrap64_in (by omega) (by omega)]
   refine LI.again (k:=N-(i+1)) ⟨i+1,rfl,by omega,rfl,fun v hv=>?_,rfl⟩ (by rw [hj];omega)
   by_cases hvi:v=i
   ·subst hvi;rw [List.take_of_length_le (by omega)] at hno2;exact hno2
   ·exact hno v (by omega)
 ·exact ⟨_,_,rfl,c1,.inr ⟨rfl,rfl,fun v hv=>hno v (by omega)⟩⟩
theorem Qyh {v be:Int} (h:TF w bad b N tl) (nd:ND N tl) (hN:N≤1048576):Calls Pg Qdo #[.agg #[.int .i64 E,.slice b N c],.int .i64 v,.int .i64 be] w fun r w'=>r=.returned (.int .i64 (oE tl N v be))∧Chg Qac w w':=by
 refine (Qog _ _ _ _ _ _ _ (fun v' w'=>v'=.int .i64 (oE tl N v be)∧Chg Qac w w') ?_).mono (by rintro e w' ⟨v,rfl,rfl,k⟩;exact ⟨rfl,k⟩)
 unfold Qko
 refine Qa2 fun A w1 _ c1 r1=>?_
 have h1:=h.nob c1
 rw [Qaf]
 by_cases h0:¬(0≤v∧v<N)
 ·refine ⟨fun _ _=>False,?_,fun _ _ k=>k.elim⟩
  refine Qag (fun k=>?_) (fun k=>Qba r1 rfl (Qag (fun k=>?_) (fun k=>?_)))<;>simp only [b1s] at *
  ·unfold oE;rw [if_neg h0];exact ⟨rfl,c1⟩
  ·unfold oE;rw [if_neg h0];exact ⟨rfl,c1⟩
  ·omega
 have h0:=Classical.not_not.1 h0
 refine ⟨fun _ w'=>w'=w1,Qag (fun k=>?_) (fun k=>Qba r1 rfl (Qag (fun k=>?_) (fun k=>rfl))),?_⟩
 ·simp only [b1s] at k;omega
 ·simp only [b1s] at k;omega
 rintro _ w2 rfl
 obtain ⟨v,rfl⟩:∃x:Nat,v=x:=⟨v.toNat,by omega⟩
 have hv:v<N:=by omega
 have hO:oE tl N v be=if (be=-1∧tl v=[])∨(0≤be∧be.toNat∈tl v) then 0 else 13:=by unfold oE;rw [if_pos h0,Int.toNat_natCast]
 have fin:¬(be=-1∧tl v=[])→Qad ⟨A,0,none⟩ w2 fun n sb sl sc=>Calls Pg Qau #[.agg #[.int .i64 n,.slice sb sl sc],.int .i64 be] w2 fun e17 w16=>∃n14 n15,e17=.returned (.tuple #[.int .i64 n14,.int .i64 n15])∧
   bif (decide (be<0)) then ((fun v' w'=>v'=Value.int .i64 (oE tl N v be)∧Chg Qac w w') (.int .i64 13) w16) else (bif (n14 != (v:Int)) then ((fun v' w'=>v'=Value.int .i64 (oE tl N v be)∧Chg Qac w w') (.int .i64 13) w16) else ((fun v' w'=>v'=Value.int .i64 (oE tl N v be)∧Chg Qac w w') (.int .i64 0) w16)):=by
  intro hno
  refine Qis r1 ((Qto h1 nd hN).mono ?_)
  rintro r w3 ⟨z,i,rfl,c2,fd⟩
  refine ⟨_,_,rfl,Qag (fun k=>⟨?_,c1.trans c2⟩) (fun k=>Qag (fun k2=>⟨?_,c1.trans c2⟩) (fun k2=>⟨?_,c1.trans c2⟩))⟩<;>simp only [b1s] at *
  ·rw [hO,if_neg (fun j=>j.elim hno fun j=>by omega)]
  ·have k3:¬(0≤be∧be.toNat∈tl v):=fun j=>by
    obtain ⟨d,rfl⟩:∃d:Nat,be=d:=⟨be.toNat,by omega⟩
    obtain ⟨j0,hz,_⟩:=fd.on nd (Qbq.2 ⟨v,hv,j.2⟩)
    rw [Int.toNat_natCast] at j
    rw [nd.ogE hv j.2] at hz
    exact k2 hz
   rw [hO,if_neg (fun j=>j.elim hno k3)]
  ·rw [hO,if_pos]
   right
   refine ⟨by omega,?_⟩
   rcases fd with ⟨v',j',d',e1,e2,hv',h3,h4⟩ | ⟨e1,_⟩
   ·obtain rfl:v'=v:=by omega
    rw [←h4,Int.toNat_natCast];exact List.mem_of_getElem? h3
   ·omega
 refine Qag (fun k=>?_) (fun k=>fin fun j=>?_)<;>simp only [b1s] at k
 ·refine Qba r1 rfl (h1.rd hv fun eb ec k1 k2 k3=>Qag (fun k4=>⟨?_,c1⟩) (fun k4=>fin fun j=>?_))<;>simp only [b1s] at k4
  ·rw [hO,if_pos (.inl ⟨k,List.length_eq_zero_iff.1 (by omega)⟩)]
  ·exact k4 (by rw [j.2];rfl)
 ·exact k j.1
theorem r_With (h:TF w bad b N tl) (hv:v<N) (hN:N≤1048576) (hl:LA w bad V A) (hbad:∀k,bad k→k<w.heap.size):Calls Pg Qc5 #[.agg #[.int .i64 E,.slice b N c],.int .i64 v,V] w fun r w'=>∃b' c',r=.returned (.agg #[.int .i64 E,.slice b' N c'])∧Chg Qac w w'∧TF w' bad b' N (upd tl v A):=by
 obtain ⟨lb,lc,rfl,l1,l2,l3⟩:=hl
 refine (Qpg _ _ _ _ _ _ _ _ _ (fun v' w'=>∃b' c',v'=.agg #[.int .i64 E,.slice b' N c']∧Chg Qac w w'∧TF w' bad b' N (upd tl v A)) ?_).mono (by rintro e w' ⟨v,rfl,b',c',rfl,k⟩;exact ⟨b',c',rfl,k⟩)
 unfold Qlk
 refine Qa2 fun A1 w1 _ c1 r1=>Qa2 fun A2 w2 hA2 c2 r2=>?_
 have c3:=c1.trans c2
 have r12:=c2.row (fun h=>h) r1
 have hA12:A1≠A2:=by have:=r1.lt;omega
 obtain ⟨V,k1,k2,k3⟩:=h
 have hone:∀u∈recs (fun i=>[V i]) N,oneC u=true:=by
  intro u hu
  obtain ⟨i,hi,hu⟩:=List.mem_flatMap.1 hu
  obtain ⟨eb,ec,e1,_⟩:=k3 i (List.mem_range.1 hi)
  simp at hu;rw [hu,e1];rfl
 rw [Qaf]
 obtain ⟨b',c',w4,hr,ho,c4⟩:=Qh7 (sc:=c) Quz (ty:=Qbp) (k1.nob c3) hone (by omega) (by omega)
 refine Qba r12 rfl ⟨b',N,c',w4,hr,?_⟩
 obtain ⟨g,cs,rfl,hg,rg,ht,_,hcs⟩:=ho.get (by omega)
 have r14:=c4.row (fun h=>h) r12
 have r24:=c4.row (fun h=>h) r2
 have l4:=r1.lt
 have l5:=r2.lt
 have s1:=c1.size
 have s3:=c3.size
 have s2:=c2.size
 refine Qb3 hv ?_
 rw [Nat.zero_add,Nat.mul_one]
 have hcl:N≤cs.length:=by
  have:=congrArg List.length ht
  rw [List.length_take,Qaq _ V_len] at this
  omega
 refine Qdb rg (by omega) rfl fun w5 c5 rg5=>?_
 have r15:=c5.row (by omega) r14
 have r25:=c5.row (by omega) r24
 refine Qaj (n:=E) r15 rfl (Qr1 r25 rfl (by simp [oneC]) fun w6 c6 r26=>Qis r26 ⟨_,_,rfl,?_,?_⟩)
 all_goals have ck:Chg (fun k=>k=g∨k=A2) w4 w6:=(c5.mono (T:=fun k=>k=g∨k=A2) fun _ _ e=>.inl e).trans (c6.mono fun _ _ e=>.inr e)
 ·exact (c3.trans c4).trans' ck fun k e=>.inr (by omega)
 ·have rg7:=c6.row (by omega) rg5
  have keep:∀{eb:Option Addr} {n:Nat} {xs:List Value},VA w eb n 1 xs→VA w6 eb n 1 xs:=fun hv=>(hv.nob (c3.trans c4)).keep ck fun g' hl hg' e=>by
   obtain ⟨g2,e2,hlt⟩:=hv.blk hl
   rw [e2] at hg'
   cases hg'
   omega
  refine ⟨upd V v (.slice lb A.length lc),⟨by rw [Qaq _ V_len],.inr ⟨g,0,_,_,rfl,rg7,?_⟩⟩,fun g' _ e=>?_,fun i hi=>?_⟩
  ·rw [List.drop_zero,List.take_set,ht]
   have:=Qfx (k:=0) (fun i=>[V i]) V_len (g:=fun i=>[upd V v (.slice lb A.length lc) i]) (v:=.slice lb A.length lc) hv (by omega) (fun j hj=>by rw [Qak _ _ hj]) (by rw [Qab];rfl)
   rwa [Nat.mul_one,Nat.add_zero] at this
  ·cases e
   intro hb
   have:=hbad g hb
   omega
  ·by_cases hiv:i=v
   ·subst hiv;rw [Qab,Qab];exact ⟨lb,lc,rfl,keep l1,l2,l3⟩
   ·rw [Qak _ _ hiv,Qak _ _ hiv]
    obtain ⟨eb,ec,e1,m1,m2,m3⟩:=k3 i hi
    exact ⟨eb,ec,e1,keep m1,m2,m3⟩
theorem sl_pre {k:Nat} (h:VA w b A.length 1 (ivs A)) (hk:k≤A.length):VA w (if c=0 then b else Option.map (fun a=>Addr.add a (0*1)) b) k 1 (ivs (A.take k)):=by
 have e1:(if c=0 then b else Option.map (fun a=>Addr.add a (0*1)) b)=b:=by
  split
  ·rfl
  ·cases b with
   | none=>rfl
   | some a=>simp [Addr.add]
 rw [e1]
 have:=h.pre hk
 rw [Nat.mul_one] at this
 unfold ivs at *
 rwa [List.map_take]
theorem sl_post {k:Nat} (h:VA w b A.length 1 (ivs A)) (hk:k≤A.length) (hc:A.length≤c):VA w (if c=k then b else Option.map (fun a=>Addr.add a (k*1)) b) (A.length-k) 1 (ivs (A.drop k)):=by
 by_cases h0:A.length-k=0
 ·rw [List.drop_eq_nil_iff.2 (by omega),h0];exact VA.zero
 ·rw [if_neg (by omega)]
  have:=h.post hk
  unfold ivs at *
  rw [List.map_drop]
  rwa [Nat.mul_one] at this ⊢
theorem ins_take {i:Nat} (hn:A.Nodup) (hi:A[i]?=some v) (hb:(v:Int)=be):ins be d A=A.take (i+1)++[d]++A.drop (i+1):=by
 have hlt:=(List.getElem?_eq_some_iff.1 hi).1
 have e1:A=A.take i++v::A.drop (i+1):=by
  conv=>lhs;rw [←List.take_append_drop i A]
  rw [List.drop_eq_getElem_cons hlt,(List.getElem?_eq_some_iff.1 hi).2]
 have e2:A.take (i+1)=A.take i++[v]:=by rw [List.take_add_one,hi];rfl
 rw [e2]
 conv=>lhs;rw [e1]
 rw [ins_mid (b:=v) (fun x hx k=>?_) hb]
 ·simp
 ·rw [e1,List.nodup_append] at hn
  exact hn.2.2 x hx v (by simp) (by omega)
theorem ins_none (hn:∀x∈A,(x:Int)≠be):ins be d A=A.take A.length++[d]++A.drop A.length:=by
 rw [ins_end hn];simp
theorem app2 {B C:List Nat} {b2 b3:Option Addr} {n2 c2 c3 A base:Nat} (o2:Own w base Qbl 1 b3 B.length c3 (ivs B)) (ra:Row w.heap A Qbl [.int .i64 d]) (h2:VA w b2 C.length 1 (ivs C)) (hn2:C.length=n2) (hb:B.length+n2≤10000000) (hbs:base≤w.heap.size) (hbad:∀k,bad k→k<base) {K:World→Value→Prop}
  (h2b:∀i,i<w.heap.size→base≤i→Okb (·=i) C.length b2) (k:∀w' V,Chg (fun k=>base≤k) w w'→LA w' bad V (B++[d]++C)→K w' V) :
  ∃s23b s23l s23c w24,(Builtin.append_ #[Qam,Qam] Qam #[.slice b3 B.length c3,.slice (some ⟨A,0,none⟩) 1 1]).run Pg w=.ok (.slice s23b s23l s23c) w24∧
  ∃s25b s25l s25c w26,(Builtin.append_ #[Qam,Qam] Qam #[.slice s23b s23l s23c,.slice b2 n2 c2]).run Pg w24=.ok (.slice s25b s25l s25c) w26∧K w26 (.slice s25b s25l s25c):=by
 subst hn2
 obtain ⟨b4,c4,w3,r3,o3,k3,_⟩:=Qek (sc:=1) Qke o2 (ty:=Qam) (VA.Qoa (l:=1) (sz:=1) ra rfl) (by simp [oneC]) (by omega) hbs (by omega) (by omega)
 refine ⟨_,_,_,_,r3,?_⟩
 have s3:=k3.size
 obtain ⟨b5,c5,w4,r4,o4,k4,_⟩:=Qr7 (sc:=c2) Qke o3 (ty:=Qam) (h2.keep k3 fun g hl hg e=>by
  obtain ⟨h3,h4⟩:=o2.Qfb e
  exact h2b g h4 h3 g hl hg rfl) Qum (by omega) (by omega) (by omega)
 refine ⟨_,_,_,_,r4,k _ _ ((k3.mono fun i _ hi=>(o2.Qfb hi).1).trans (k4.mono fun i _ hi=>(o3.Qfb hi).1)) ?_⟩
 have e1:ivs B++[.int .i64 (d:Int)]++ivs C=ivs (B++[d]++C):=by simp [ivs]
 have e2:B.length+1+C.length=(B++[d]++C).length:=by simp;omega
 rw [e1] at o4
 rw [e2] at o4 ⊢
 refine ⟨b5,c5,rfl,VA.Qj9 o4,fun g _ hg hb'=>?_,o4.cap.1⟩
 have:=(o4.Qfb hg).1
 have:=hbad g hb'
 omega
theorem r_put (h:TF w bad b N tl) (nd:ND N tl) (hN:N≤1048576) (hv:v<N) (hbe:-9223372036854775808≤be∧be≤9223372036854775807) (hbad:∀k,bad k→k<w.heap.size) :
  Calls Pg Qgt #[.agg #[.int .i64 E,.slice b N c],.int .i64 d,.int .i64 v,.int .i64 be] w fun r w'=>∃b' c',r=.returned (.agg #[.int .i64 E,.slice b' N c'])∧Chg Qac w w'∧TF w' bad b' N (put1 tl v be d):=by
 refine (Qqo _ _ _ _ _ _ _ _ (fun v' w'=>∃b' c',v'=.agg #[.int .i64 E,.slice b' N c']∧Chg Qac w w'∧TF w' bad b' N (put1 tl v be d)) ?_).mono (by rintro e w' ⟨v,rfl,b',c',rfl,k⟩;exact ⟨b',c',rfl,k⟩)
 unfold Qms
 have hlen:=Qw6 nd hv
 have hnd:=nd.nodup hv
 refine Qa2 fun A1 w1 _ c1 r1=>Qa2 fun A2 w2 hA2 c2 r2=>?_
 have c3:=c1.trans c2
 have r12:=c2.row (fun h=>h) r1
 have s1:=c1.size
 have s3:=c3.size
 have h2:=h.nob c3
 rw [Qaf]
 refine Qba r12 rfl (h2.rd hv fun eb ec k1 k2 k3=>?_)
 let J:Nat→List Value→World→Prop:=fun j vs w'=>∃i:Nat,∃at_:Int,vs=[.int .i64 at_,.int .i64 i]∧w'=w2∧i≤(tl v).length∧j=(tl v).length-i∧
  ((∃k d:Nat,at_=k∧k<i∧(tl v)[k]?=some d∧(d:Int)=be)∨(at_=(tl v).length-1∧∀d∈(tl v).take i,(d:Int)≠be))
 refine ⟨LI J,LM J,⟨_,0,_,rfl,rfl,by omega,rfl,.inr ⟨by rw [wrap64_in (by omega) (by omega)],by simp⟩⟩,?_⟩
 intro _ at_ i w3 hJ
 obtain ⟨i,at',hvs,rfl,hi,hj,hat⟩:=hJ.at
 simp only [List.cons.injEq,Value.int.injEq,and_true,true_and] at hvs
 obtain ⟨rfl,rfl⟩:=hvs
 refine Qag (fun hc=>?_) (fun hc=>?_)<;>simp only [b1s] at hc
 ·have hi':i<(tl v).length:=by omega
  obtain ⟨x,hx⟩:∃x,(tl v)[i]?=some x:=⟨_,List.getElem?_eq_getElem hi'⟩
  refine rdI k1 hx (Qag (fun hc2=>?_) (fun hc2=>?_))<;>simp only [b1s] at hc2<;>rw [wrap64_in (by omega) (by omega)]
  ·exact LI.again (k:=(tl v).length-(i+1)) ⟨i+1,_,rfl,rfl,by omega,rfl,.inl ⟨i,x,rfl,by omega,hx,hc2⟩⟩ (by rw [hj];omega)
  ·refine LI.again (k:=(tl v).length-(i+1)) ⟨i+1,_,rfl,rfl,by omega,rfl,?_⟩ (by rw [hj];omega)
   rcases hat with ⟨k,d',e1,e2,e3⟩ | ⟨e1,e2⟩
   ·exact .inl ⟨k,d',e1,by omega,e3⟩
   ·refine .inr ⟨e1,fun y hy=>?_⟩
    rw [List.take_add_one,hx,List.mem_append] at hy
    rcases hy with hy | hy
    ·exact e2 y hy
    ·simp at hy;rw [hy];exact hc2
 ·obtain ⟨m,hm,hm2,hins⟩:∃m:Nat,at_+1=m∧m≤(tl v).length∧ins be d (tl v)=(tl v).take m++[d]++(tl v).drop m:=by
   rcases hat with ⟨k,d',e1,e2,e3,e4⟩ | ⟨e1,e2⟩
   ·have:=(List.getElem?_eq_some_iff.1 e3).1
    exact ⟨k+1,by omega,by omega,ins_take hnd e3 e4⟩
   ·rw [List.take_of_length_le (by omega)] at e2
    exact ⟨(tl v).length,by omega,by omega,ins_none e2⟩
  rw [wrap64_in (x:=at_+1) (by omega) (by omega),hm,Int.toNat_natCast,Nat.sub_zero]
  have c4:Chg Qac w3 w3.drew:=(Chg.refl _ _).drew
  have h3:TF w3 (fun k=>bad k∨(w.heap.size≤k∧k<w3.heap.size)) b N tl:=(h.old (n:=w3.heap.size)).nob c3
  have fin:∀(w5:World) (V:Value),Chg Qac w3 w5→LA w5 (fun k=>bad k∨(w.heap.size≤k∧k<w3.heap.size)) V ((tl v).take m++[d]++(tl v).drop m)→Qad ⟨A1,0,none⟩ w5 fun n27 s28b s28l s28c=>Calls Pg Qc5 #[.agg #[.int .i64 n27,.slice s28b s28l s28c],.int .i64 v,V] w5 fun e32 w31=>∃n29 s30b s30l s30c,e32=.returned (.agg #[.int .i64 n29,.slice s30b s30l s30c])∧
    sts ⟨A2,0,none⟩ 0 [.int .i64 n29,.slice s30b s30l s30c] w31 fun w33=>Qad ⟨A2,0,none⟩ w33 fun n35 s36b s36l s36c=>(fun v' w'=>∃b' c',v'=Value.agg #[.int .i64 E,.slice b' N c']∧Chg Qac w w'∧TF w' bad b' N (put1 tl v be d)) (.agg #[.int .i64 n35,.slice s36b s36l s36c]) w33:=by
   intro w5 V c5 hl
   have s5:=c5.size
   have l2:=r2.lt
   refine Qis (c5.row (fun h=>h) r12) ((r_With (h3.nob c5) hv hN hl fun k hk=>hk.elim (fun j=>by have:=hbad k j;omega) fun j=>by omega).mono ?_)
   rintro r w6 ⟨b6,c6',rfl,c6,h6⟩
   have r26:=(c5.trans c6).row (fun h=>h) r2
   refine ⟨_,_,_,_,rfl,Qr1 r26 rfl (by simp [oneC]) fun w7 c7 r27=>Qis r27 ⟨_,_,rfl,?_,?_⟩⟩
   ·exact ((c3.trans c5).trans c6).trans' c7 fun k e=>.inr (by omega)
   ·have e1:put1 tl v be d=upd tl v ((tl v).take m++[d]++(tl v).drop m):=by unfold put1;rw [hins]
    rw [e1]
    exact (h6.keep c7 fun k e=>.inr (by omega)).weak fun k hk=>.inl hk
  have hpre:=sl_pre (c:=ec) k1 hm2
  have hpost:=sl_post k1 hm2 k3
  have l1:((tl v).take m).length=m:=by rw [List.length_take];omega
  have l2:((tl v).drop m).length=(tl v).length-m:=List.length_drop
  have hm0:(0:Int)≤(m:Int):=by omega
  have hm1:(m:Int)≤ec:=by omega
  have hm3:(m:Int)≤((tl v).length:Nat):=by omega
  have hbad3:∀k,(bad k∨(w.heap.size≤k∧k<w3.heap.size))→k<w3.drew.heap.size:=fun k hk=>by
   show k<w3.heap.size
   exact hk.elim (fun j=>by have:=hbad k j;omega) fun j=>j.2
  generalize (tl v).take m=B at *
  generalize (tl v).drop m=C at *
  subst l1
  rw [←l2] at hpost
  have hold:∀i,w3.drew.heap.size≤i→Okb (·=i) C.length (if ec=B.length then eb else Option.map (fun a=>Addr.add a (B.length*1)) eb):=fun i hi g hl hg e=>by
   obtain ⟨g2,e2,hlt⟩:=hpost.blk hl
   rw [e2] at hg
   cases hg
   subst e
   exact Nat.lt_irrefl _ (Nat.lt_of_lt_of_le hlt hi)
  refine ⟨hm0,hm1,hm0,hm3,?_,?_⟩
  ·obtain ⟨b3,c3',w5,q1,o1,k5⟩:=Qh7 (sc:=ec-0) Qke (ty:=Qam) (hpre.nob c4) Qum (by omega) (by omega)
   have s5:=k5.size
   refine ⟨_,_,_,_,q1,Qa2 fun A3 w6 hA3 k6 r6=>?_⟩
   have s6:=k6.size
   have o2:=o1.chg k6 fun _ _ _ h=>h
   refine app2 (bad:=fun k=>bad k∨(w.heap.size≤k∧k<w3.heap.size)) o2 r6 ((hpost.nob c4).nob (k5.trans k6)) l2 (by omega) (by omega) hbad3 (fun i _ hi=>hold i hi) fun w7 V k7 hl=>fin w7 V ((c4.trans (k5.trans k6)).trans' k7 fun i hi=>.inr hi) hl
  ·refine Qa2 fun A3 w5 hA3 k5 r5=>?_
   obtain ⟨b3,c3',w6,q1,o1,k6⟩:=Qh7 (sc:=ec-0) Qke (ty:=Qam) ((hpre.nob c4).nob k5) Qum (by omega) (by omega)
   have s5:=k5.size
   have s6:=k6.size
   refine ⟨_,_,_,_,q1,?_⟩
   refine app2 (bad:=fun k=>bad k∨(w.heap.size≤k∧k<w3.heap.size)) o1 (k6.row (fun h=>h) r5) ((hpost.nob c4).nob (k5.trans k6)) l2 (by omega) (by omega) (fun k hk=>Nat.lt_of_lt_of_le (hbad3 k hk) s5) (fun i _ hi=>hold i (Nat.le_trans s5 hi)) fun w7 V k7 hl=>fin w7 V ((c4.trans (k5.trans k6)).trans' k7 fun i hi=>.inr (Nat.le_trans s5 hi)) hl
end
end Core
end Go.Proofs.YtpmicakdjhoafaaGreatDoor
namespace Go.Proofs.YtpmicakdjhoafaaGreatDoor
open Go Go.RowKit
namespace Core
open Go.Proofs.YtpmicakdjhoafaaGreatDoor.Seq Go.Proofs.YtpmicakdjhoafaaGreatDoor.Cut Go.Proofs.YtpmicakdjhoafaaGreatDoor.Web
section
variable {w w':World} {bad:Nat→Prop} {b sb:Option Addr} {l c sc N v d e j u:Nat} {E x be ce:Int} {A:List Nat} {V:Value} {tl:Nat→List Nat} {S:Nat→Prop}
theorem r_New (h1:1≤N) (h2:N≤1048576) (hbad:∀k,bad k→k<w.heap.size):Calls Pg Qcx #[.int .i64 N,.int .i64 N] w fun r w'=>∃b c,r=.returned (.agg #[.int .i64 (N:Nat),.slice b N c])∧Chg Qac w w'∧TF w' bad b N (fun _=>[]):=by
 refine (Qqp _ _ _ (fun v' w'=>∃b c,v'=.agg #[.int .i64 (N:Nat),.slice b N c]∧Chg Qac w w'∧TF w' bad b N (fun _=>[])) ?_).mono (by rintro e w' ⟨v,rfl,b,c,rfl,k⟩;exact ⟨b,c,rfl,k⟩)
 unfold Qmt
 refine Qa2 fun A w1 hA c1 r1=>⟨by omega,Int.le_refl _,by omega,Qa2 fun A2 w2 hA2 c2 r2=>?_⟩
 have s1:=c1.size
 have l1:=r1.lt
 rw [Int.toNat_natCast,Qbt] at *
 refine Qr1 (c2.row (fun h=>h) r1) rfl (by simp [oneC]) fun w3 c3 r3=>Qis r3 ⟨_,_,rfl,(c1.trans c2).trans' c3 fun k e=>.inr (by omega),fun _=>.slice none 0 0,?_,fun g _ e hb=>?_,fun i _=>⟨none,0,rfl,VA.zero,fun g hl=>by (simp at hl),by simp⟩⟩
 ·exact VA.Qoa (c3.row (by omega) r2) (by rw [Qaq _ (sz:=1) (fun _=>rfl)])
 ·obtain rfl:A2=g:=Option.some.inj e
  have:=hbad _ hb
  omega
theorem wrap2 (he:e<N) (hN:N≤1048576):IntKind.i64.wrap (2*(e:Int))=((2*e:Nat):Int)∧IntKind.i64.wrap (IntKind.i64.wrap (2*(e:Int))+1)=((2*e+1:Nat):Int):=by
 rw [wrap64_in (x:=2*(e:Int)) (by omega) (by omega),wrap64_in (x:=2*(e:Int)+1) (by omega) (by omega)];omega
theorem r_Lay (h:TF w bad b N tl) (hM:MP N tl) (hN:N≤1048576) (he:e<N) (hn:¬Laid tl N e) (hu:u<N) (hv:v<N) (hb:oE tl N u be=0) (hc:oE tl N v ce=0) (hbad:∀k,bad k→k<w.heap.size) :
  Calls Pg Qjb #[.agg #[.int .i64 (N:Nat),.slice b N c],.int .i64 e,.agg #[.int .i64 u,.int .i64 be],.agg #[.int .i64 v,.int .i64 ce]] w fun r w'=>∃b' c',r=.returned (.tuple #[.agg #[.int .i64 (N:Nat),.slice b' N c'],.int .i64 0])∧Chg Qac w w'∧TF w' bad b' N (lay tl e u be v ce):=by
 refine (Qqq _ _ _ _ _ _ _ _ _ _ (fun v' w'=>∃b' c',v'=.tuple #[.agg #[.int .i64 (N:Nat),.slice b' N c'],.int .i64 0]∧Chg Qac w w'∧TF w' bad b' N (lay tl e u be v ce)) ?_).mono (by rintro e w' ⟨v,rfl,b',c',rfl,k⟩;exact ⟨b',c',rfl,k⟩)
 unfold Qmu
 have hbb:∀{x be},oE tl N x be=0→-1≤be∧be<2097152:=fun {x be} h=>by
  unfold oE at h
  split at h
  ·split at h
   ·rename_i k
    rcases k with k | ⟨k1,k2⟩
    ·omega
    ·have:=hM.lt _ (Qbq.2 ⟨x.toNat,by omega,k2⟩);omega
   ·cases h
  ·cases h
 have hbe:=hbb hb
 have hce:=hbb hc
 obtain ⟨e1,e2⟩:=wrap2 he hN
 rw [e2,e1]
 refine Qa2 fun A1 w1 hA1 c1 r1=>Qa2 fun A2 w2 hA2 c2 r2=>Qa2 fun A3 w3 hA3 c3 r3=>Qa2 fun A4 w4 hA4 c4 r4=>?_
 have cc:=((c1.trans c2).trans c3).trans c4
 have q1:=((c2.trans c3).trans c4).row (fun h=>h) r1
 have q2:=(c3.trans c4).row (fun h=>h) r2
 have q3:=c4.row (fun h=>h) r3
 have s1:=c1.size
 have s2:=c2.size
 have s3:=c3.size
 have s4:=c4.size
 have l4:=r4.lt
 have h4:TF w4 (fun k=>bad k∨(w.heap.size≤k∧k<w4.heap.size)) b N tl:=(h.old (n:=w4.heap.size)).nob cc
 have hbad4:∀{w5:World},w4.heap.size≤w5.heap.size→∀k,(bad k∨(w.heap.size≤k∧k<w4.heap.size))→k<w5.heap.size:=fun hs k hk=>hk.elim (fun j=>by have:=hbad k j;omega) fun j=>by omega
 refine ⟨fun _ w'=>w'=w4,Qag (fun k=>?_) (fun k=>Qaj (n:=(N:Int)) q1 rfl (Qag (fun k=>?_) (fun _=>rfl))),?_⟩
 ·simp only [b1s] at k;omega
 ·simp only [b1s] at k;omega
 rintro _ w5 rfl
 refine Qis q1 ((Qto h4 hM.toND hN).mono ?_)
 rintro r w6 ⟨z,i,rfl,c6,fd⟩
 obtain ⟨rfl, rfl⟩ := fd.off fun d hd k => hn (by have : d = 2 * e := by omega
                                                  subst this;exact hd)
 have p1:=c6.row (fun h=>h) q1
 have p2:=c6.row (fun h=>h) q2
 have p3:=c6.row (fun h=>h) q3
 refine ⟨_,_,rfl,Qag (fun k=>by simp at k) (fun _=>Qis p1 ?_)⟩
 refine Qhj (i:=0) (by omega) (Qaj (n:=(u:Int)) p2 rfl (Qhj (i:=1) (by omega) (Qaj (n:=be) p2 rfl ((Qyh (h4.nob c6) hM.toND hN).mono ?_))))
 rintro r w7 ⟨rfl,c7⟩
 rw [hb]
 have o1:=c7.row (fun h=>h) p1
 have o2:=c7.row (fun h=>h) p2
 have o3:=c7.row (fun h=>h) p3
 refine ⟨_,rfl,Qag (fun k=>by simp at k) (fun _=>Qis o1 ?_)⟩
 refine Qhj (i:=0) (by omega) (Qaj (n:=(v:Int)) o3 rfl (Qhj (i:=1) (by omega) (Qaj (n:=ce) o3 rfl ((Qyh (h4.nob (c6.trans c7)) hM.toND hN).mono ?_))))
 rintro r w8 ⟨rfl,c8⟩
 rw [hc]
 have c9:=((c6.trans c7).trans c8).trans ((Chg.refl Qac w8).drew)
 have n1:=((c7.trans c8).drew).row (fun h=>h) p1
 have n2:=((c7.trans c8).drew).row (fun h=>h) p2
 have n3:=((c7.trans c8).drew).row (fun h=>h) p3
 have n4:=c9.row (fun h=>h) r4
 have h9:=h4.nob c9
 refine ⟨_,rfl,Qag (fun k=>by simp at k) (fun _=>?_)⟩
 generalize w8.drew=w9 at *
 have s9:=c9.size
 refine Qis n1 ?_
 refine Qhj (i:=0) (by omega) (Qaj (n:=(u:Int)) n2 rfl (Qhj (i:=1) (by omega) (Qaj (n:=be) n2 rfl (Qhj (i:=0) (by omega) (Qaj (n:=(v:Int)) n3 rfl (Qhj (i:=1) (by omega) (Qaj (n:=ce) n3 rfl ((r_put (d:=2*e) h9 hM.toND hN hu (by omega) (hbad4 s9)).mono ?_))))))))
 rintro r w10 ⟨b10,c10',rfl,c10,h10⟩
 have m3:=c10.row (fun h=>h) n3
 obtain ⟨nd2,hto⟩:=hM.Quk (be:=be) hn he hu
 have s10:=c10.size
 refine ⟨_,_,_,_,rfl,by rw [m3.cell];rfl,by rw [m3.cell];rfl,(r_put (d:=2*e+1) h10 nd2 hN hv (by omega) (hbad4 (by omega))).mono ?_⟩
 rintro r w11 ⟨b11,c11',rfl,c11,h11⟩
 refine ⟨_,_,_,_,rfl,Qr1 ((c10.trans c11).row (fun h=>h) n4) rfl (by simp [oneC]) fun w12 c12 r12=>Qis r12 ⟨_,_,rfl,?_,?_⟩⟩
 ·exact (((cc.trans c9).trans c10).trans c11).trans' c12 fun k e=>.inr (by omega)
 ·exact (h11.keep c12 fun k e=>.inr (by omega)).weak fun k hk=>.inl hk
theorem lift_comm (hM:MP N tl) (he:Laid tl N e):lift1 (lift1 tl (og tl N (2*e)) (2*e)) (og tl N (2*e+1)) (2*e+1)=lift tl N e:=by
 unfold lift
 have key:∀{v u d d':Nat},lift1 (lift1 tl v d) u d'=lift1 (lift1 tl u d') v d:=by
  intro v u d d'
  funext x
  unfold lift1 upd
  by_cases h1:x=v<;>by_cases h2:x=u
  ·subst h1;subst h2
   simp only [if_true,List.filter_filter]
   congr 1
   funext y
   exact Bool.and_comm _ _
  ·subst h1;simp [h2]
  ·subst h2;simp [h1]
  ·simp [h1,h2]
 exact key
theorem rem_take {i:Nat} (hn:A.Nodup) (hi:A[i]?=some d):A.take i++A.drop (i+1)=A.filter (·≠d):=by
 have hlt:=(List.getElem?_eq_some_iff.1 hi).1
 have e1:A=A.take i++d::A.drop (i+1):=by
  conv=>lhs;rw [←List.take_append_drop i A]
  rw [List.drop_eq_getElem_cons hlt,(List.getElem?_eq_some_iff.1 hi).2]
 rw [e1,List.nodup_append,List.nodup_cons] at hn
 conv=>rhs;rw [e1]
 rw [List.filter_append,List.filter_cons_of_neg (by simp),List.filter_eq_self.2 fun x hx=>?_,List.filter_eq_self.2 fun x hx=>?_]
 ·simp;rintro rfl;exact hn.2.1.1 hx
 ·simp;exact hn.2.2 x hx d (by simp)
theorem r_Lift (h:TF w bad b N tl) (hM:MP N tl) (hN:N≤1048576) (he:Laid tl N e) (hbad:∀k,bad k→k<w.heap.size) :
  Calls Pg Qig #[.agg #[.int .i64 (N:Nat),.slice b N c],.int .i64 e] w fun r w'=>∃b' c',r=.returned (.tuple #[.agg #[.int .i64 (N:Nat),.slice b' N c'],.int .i64 0])∧Chg Qac w w'∧TF w' bad b' N (lift tl N e):=by
 refine (Qpi _ _ _ _ _ _ (fun v' w'=>∃b' c',v'=.tuple #[.agg #[.int .i64 (N:Nat),.slice b' N c'],.int .i64 0]∧Chg Qac w w'∧TF w' bad b' N (lift tl N e)) ?_).mono (by rintro e w' ⟨v,rfl,b',c',rfl,k⟩;exact ⟨b',c',rfl,k⟩)
 unfold Qlm
 have heN:=hM.Qcb he
 have hto:=hM.odd he
 refine Qa2 fun A1 w1 hA1 c1 r1=>Qa2 fun A2 w2 hA2 c2 r2=>?_
 have cc:=c1.trans c2
 have q1:=c2.row (fun h=>h) r1
 have s1:=c1.size
 have s2:=c2.size
 have l1:=r1.lt
 have l2:=r2.lt
 have h2:TF w2 (fun k=>bad k∨(w.heap.size≤k∧k<w2.heap.size)) b N tl:=(h.old (n:=w2.heap.size)).nob cc
 have hbad2:∀{w5:World},w2.heap.size≤w5.heap.size→∀k,(bad k∨(w.heap.size≤k∧k<w2.heap.size))→k<w5.heap.size:=fun hs k hk=>hk.elim (fun j=>by have:=hbad k j;omega) fun j=>by omega
 refine ⟨fun _ w'=>w'=w2,Qag (fun k=>?_) (fun k=>Qaj (n:=(N:Int)) q1 rfl (Qag (fun k=>?_) (fun _=>rfl))),?_⟩
 ·simp only [b1s] at k;omega
 ·simp only [b1s] at k;omega
 rintro _ w3 rfl
 let tk:Nat→(Nat→List Nat):=fun k=>if k=0 then tl else if k=1 then lift1 tl (og tl N (2*e)) (2*e) else lift tl N e
 have ogd:=Qcc he
 have ogt:=Qcc hto
 have ndk:ND N (lift1 tl (og tl N (2*e)) (2*e)):=hM.toND.liftD ogd.1 ogd.2
 let J:Nat→List Value→World→Prop:=fun j vs w'=>∃k:Nat,∃b' c',vs=[.int .i64 k]∧k≤2∧Chg (fun i=>w.heap.size≤i∧i<w3.heap.size) w3 w'∧Row w'.heap A1 Qap [.int .i64 (N:Nat),.slice b' N c']∧Row w'.heap A2 Qap [.int .i64 0,.slice none 0 0]∧TF w' (fun k=>bad k∨(w.heap.size≤k∧k<w3.heap.size)) b' N (tk k)∧j=2-k
 refine ⟨LI J,LM J,⟨_,0,b,c,rfl,by omega,Chg.refl _ _,q1,r2,h2,rfl⟩,?_⟩
 intro _ k w4 hJ
 obtain ⟨k,b4,c4,hvs,hk,ck,p1,p2,h4,hj⟩:=hJ.at
 simp only [List.cons.injEq,Value.int.injEq,and_true,true_and] at hvs
 subst hvs
 have s4:=ck.size
 refine Qag (fun hc=>?_) (fun hc=>?_)<;>simp only [b1s] at hc
 ·
  obtain ⟨dk,vk,e3,ndk',hv1,hd1,etk⟩:∃dk vk:Nat,IntKind.i64.wrap (IntKind.i64.wrap (2*(e:Int))+k)=(dk:Nat)∧ND N (tk k)∧vk<N∧dk∈tk k vk∧tk (k+1)=lift1 (tk k) vk dk:=by
   rw [wrap64_in (x:=2*(e:Int)) (by omega) (by omega),wrap64_in (by omega) (by omega)]
   rcases (show k=0∨k=1 by omega) with rfl | rfl
   ·exact ⟨2*e,og tl N (2*e),by omega,hM.toND,ogd.1,ogd.2,rfl⟩
   ·refine ⟨2*e+1,og tl N (2*e+1),by omega,ndk,ogt.1,?_,(lift_comm hM he).symm⟩
    show 2*e+1∈lift1 tl (og tl N (2*e)) (2*e) (og tl N (2*e+1))
    by_cases kk:og tl N (2*e+1)=og tl N (2*e)
    ·have:=ogt.2
     rw [kk] at this ⊢;rw [Qos];exact List.mem_filter.2 ⟨this,by simp⟩
    ·rw [Qrg kk];exact ogt.2
  rw [e3]
  have hdl:=Qbq.2 ⟨vk,hv1,hd1⟩
  have hlen:=Qw6 ndk' hv1
  refine Qis p1 ((Qto h4 ndk' hN).mono ?_)
  rintro r w5 ⟨z,i,rfl,c5,fd⟩
  obtain ⟨i,rfl,rfl,hgi⟩:=fd.on ndk' hdl
  rw [ndk'.ogE hv1 hd1] at hgi ⊢
  have hil:=(List.getElem?_eq_some_iff.1 hgi).1
  refine ⟨_,_,rfl,Qag (fun k=>?_) (fun _=>?_)⟩
  ·simp only [b1s] at k;omega
  have c6:=c5.trans ((Chg.refl Qac w5).drew)
  have p1':=c6.row (fun h=>h) p1
  have p2':=c6.row (fun h=>h) p2
  have h6:=h4.nob c6
  generalize w5.drew=w6 at *
  have s6:=c6.size
  have s5:=c5.size
  rw [Qaf]
  refine Qba p1' rfl (h6.rd hv1 fun eb ec k1 k2 k3=>?_)
  obtain ⟨V6,j1,j2,j3⟩:=h6
  obtain ⟨eb2,ec2,e5,m1,m2,m3⟩:=j3 vk hv1
  refine ⟨by omega,by omega,Qba p1' rfl (j1.ix hv1 fun g o ty cs rg _ hcs=>?_)⟩
  have hcell:cs[o]?=some (.slice eb2 (tk k vk).length ec2):=by
   have:=hcs 0 (by omega)
   rwa [Nat.mul_one,Nat.add_zero,Nat.add_zero,V_get hv1,e5] at this
  refine Qba rg hcell ?_
  rw [wrap64_in (x:=(i:Int)+1) (by omega) (by omega),show (i:Int)+1=((i+1:Nat):Int) by omega]
  simp only [Int.toNat_natCast,Nat.sub_zero]
  have hpre:=sl_pre (c:=ec) k1 (k:=i) (by omega)
  have hpost:=sl_post m1 (k:=i+1) (by omega) m3
  have l3:((tk k vk).take i).length=i:=by rw [List.length_take];omega
  have l4:((tk k vk).drop (i+1)).length=(tk k vk).length-(i+1):=List.length_drop
  have hrem:=rem_take (ndk'.nodup hv1) hgi
  generalize (tk k vk).take i=X at *
  generalize (tk k vk).drop (i+1)=Y at *
  subst l3
  rw [←l4] at hpost ⊢
  obtain ⟨b7,c7',w7,g7,o7,c7⟩:=Qh7 (sc:=ec) Qke (ty:=Qam) hpre Qum (by omega) (by omega)
  have s7:=c7.size
  have rg7:=c7.row (fun h=>h) rg
  have p17:=c7.row (fun h=>h) p1'
  refine ⟨by omega,by omega,_,_,_,_,g7,by rw [rg7.cell];exact hcell,by rw [p17.cell];rfl,?_⟩
  obtain ⟨b8,c8',w8,g8,o8,c8,_⟩:=Qr7 (sc:=ec2-(X.length+1)) Qke o7 (ty:=Qam) (hpost.nob c7) Qum (by omega) (by omega) (by omega)
  have s8:=c8.size
  have c68:Chg Qac w6 w8:=c7.trans' c8 fun i hi=>.inr (o7.Qfb hi).1
  have e6:ivs X++ivs Y=ivs (X++Y):=by simp [ivs]
  have e7:X.length+Y.length=(X++Y).length:=by simp
  rw [e6,e7] at o8
  rw [e7] at g8
  refine ⟨_,_,_,_,g8,Qis (c68.row (fun h=>h) p1') ((r_With (A:=X++Y) ((h4.nob c6).nob c68) hv1 hN ⟨b8,c8',rfl,VA.Qj9 o8,fun g' _ hg' hb'=>?_,o8.cap.1⟩ (hbad2 (by omega))).mono ?_)⟩
  ·have:=(o8.Qfb hg').1
   have:=hbad2 (Nat.le_trans s4 s6) g' hb'
   omega
  rintro r w9 ⟨b9,c9',rfl,c9,h9⟩
  refine ⟨_,_,_,_,rfl,Qr1 (c9.row (fun h=>h) (c68.row (fun h=>h) p1')) rfl (by simp [oneC]) fun w10 c10 r10=>?_⟩
  rw [wrap64_in (by omega) (by omega)]
  refine LI.again (k:=2-(k+1)) ⟨k+1,b9,c9',rfl,by omega,?_,r10,?_,?_,rfl⟩ (by rw [hj];omega)
  ·exact (ck.trans (((c6.trans c68).trans c9).weak)).trans (c10.mono fun i _ e=>by omega)
  ·exact c10.row (by omega) (c9.row (fun h=>h) (c68.row (fun h=>h) p2'))
  ·rw [etk]
   unfold lift1
   rw [←hrem]
   exact h9.keep c10 fun i e=>.inr (by omega)
 ·obtain rfl:k=2:=by omega
  refine Qis p1 (Qr1 p2 rfl (by simp [oneC]) fun w5 c5 r5=>Qis r5 ⟨_,_,rfl,?_,?_⟩)
  ·exact (cc.trans' ck fun i e=>.inr e.1).trans' c5 fun k e=>.inr (by omega)
  ·exact (h4.keep c5 fun k e=>.inr (by omega)).weak fun k hk=>.inl hk
theorem Qvz {a m:Nat}:Int.tmod (a:Int) (m:Int)=((a % m:Nat):Int):=rfl
theorem r_Next (h:TF w bad b N tl) (nd:ND N tl) (hN:N≤1048576) (hd:d∈dl tl N):Calls Pg Qeb #[.agg #[.int .i64 E,.slice b N c],.int .i64 d,.int .i64 1] w fun r w'=>r=.returned (.int .i64 (sg tl N d:Nat))∧Chg Qac w w':=by
 refine (Qph _ _ _ _ _ _ _ (fun v' w'=>v'=.int .i64 (sg tl N d:Nat)∧Chg Qac w w') ?_).mono (by rintro e w' ⟨v,rfl,rfl,k⟩;exact ⟨rfl,k⟩)
 unfold Qll
 refine Qa2 fun A1 w1 hA1 c1 r1=>Qaj (n:=E) r1 rfl ?_
 rw [Qaf]
 refine Qba r1 rfl ((Qto (h.nob c1) nd hN).mono ?_)
 rintro r w2 ⟨z,i,rfl,c2,fd⟩
 obtain ⟨i,rfl,rfl,hgi⟩:=fd.on nd hd
 obtain ⟨hv,hdv⟩:=Qcc hd
 have hlen:=Qw6 nd hv
 have hil:=(List.getElem?_eq_some_iff.1 hgi).1
 have r2:=c2.row (fun h=>h) r1
 have h2:=(h.nob c1).nob c2
 refine ⟨_,_,rfl,Qba r2 rfl (h2.rd hv fun eb ec k1 k2 k3=>?_)⟩
 have c3:=(c1.trans c2).trans ((Chg.refl Qac w2).drew)
 have r3:Row w2.drew.heap _ _ _:=r2
 have h3:=h.nob c3
 generalize w2.drew=w3 at *
 refine Qba r3 rfl (h3.rd hv fun eb ec k1 k2 k3=>⟨by omega,?_⟩)
 rw [wrap64_in (x:=(i:Int)+1) (by omega) (by omega),wrap64_in (by omega) (by omega),show (i:Int)+1+((tl (og tl N d)).length:Nat)=((i+1+(tl (og tl N d)).length:Nat):Int) by omega,Qvz,Nat.add_mod_right]
 have hm:(i+1) % (tl (og tl N d)).length<(tl (og tl N d)).length:=Nat.mod_lt _ (by omega)
 refine rdI k1 (List.getElem?_eq_getElem hm) ⟨?_,c3⟩
 rw [nd.sgE hv hdv,Qzs (nd.nodup hv) hgi,List.getD_eq_getElem?_getD,List.getElem?_eq_getElem hm];rfl
theorem r_Darts (h:TF w bad b N tl) (nd:ND N tl) (h1:1≤N) (hN:N≤1048576):Calls Pg Qe8 #[.agg #[.int .i64 (N:Nat),.slice b N c]] w fun r w'=>∃V,r=.returned V∧Chg Qac w w'∧LA w' (fun k=>k<w.heap.size) V ((List.range (2*N)).filter fun d=>decide (d∈dl tl N)):=by
 refine (Qof _ _ _ _ _ (fun v' w'=>Chg Qac w w'∧LA w' (fun k=>k<w.heap.size) v' ((List.range (2*N)).filter fun d=>decide (d∈dl tl N))) ?_).mono (by rintro e w' ⟨v,rfl,k⟩;exact ⟨v,rfl,k⟩)
 unfold Qkn
 refine Qa2 fun A1 w1 hA1 c1 r1=>?_
 have s1:=c1.size
 let J:Nat→List Value→World→Prop:=fun j vs w'=>∃i:Nat,∃b' l' c',vs=[.slice b' l' c',.int .i64 i]∧i≤2*N∧Chg Qac w1 w'∧Own w' w1.heap.size Qbl 1 b' l' c' (ivs ((List.range i).filter fun d=>decide (d∈dl tl N)))∧j=2*N-i
 refine ⟨LI J,LM J,⟨_,0,none,0,0,rfl,by omega,Chg.refl _ _,Own.nil,rfl⟩,?_⟩
 intro _ sb sl sc i w2 hJ
 obtain ⟨i,b',l',c',hvs,hi,ck,ow,hj⟩:=hJ.at
 simp only [List.cons.injEq,Value.slice.injEq,Value.int.injEq,and_true,true_and] at hvs
 obtain ⟨⟨rfl,rfl,rfl⟩,rfl⟩:=hvs
 have r2:=ck.row (fun h=>h) r1
 have s2:=ck.size
 have hl':sl≤i:=by
  have:=ow.len
  rw [Qwi,Nat.mul_one] at this
  rw [←this]
  have:=List.length_filter_le (fun d=>decide (d∈dl tl N)) (List.range i)
  rwa [List.length_range] at this
 refine Qaj (n:=(N:Int)) r2 rfl ?_
 rw [wrap64_in (x:=2*(N:Int)) (by omega) (by omega)]
 refine Qag (fun hc=>?_) (fun hc=>?_)<;>simp only [b1s] at hc
 ·refine Qis r2 ((Qto ((h.nob c1).nob ck) nd hN).mono ?_)
  rintro r w3 ⟨z,k,rfl,c3,fd⟩
  have s3:=c3.size
  refine ⟨_,_,rfl,Qag (fun hc2=>?_) (fun hc2=>?_)⟩<;>simp only [b1s] at hc2<;>rw [wrap64_in (by omega) (by omega)]
  ·have hm:i∈dl tl N:=Classical.byContradiction fun k=>by
    have := (fd.off fun d hd e => k (by have : d = i := by omega
                                        subst this;exact hd)).1
    omega
   refine Qa2 fun A2 w4 hA2 c4 r4=>?_
   have o4:=(ow.chg c3 fun _ _ _ h=>h).chg c4 fun _ _ _ h=>h
   have s4:=c4.size
   obtain ⟨b5,c5',w5,g5,o5,c5,_⟩:=Qek (sc:=1) Qke o4 (ty:=Qam) (VA.Qoa (l:=1) (sz:=1) r4 rfl) (by simp [oneC]) (by omega) (by omega) (by omega) (by omega)
   refine ⟨_,_,_,_,g5,?_⟩
   refine LI.again (k:=2*N-(i+1)) ⟨i+1,_,_,_,rfl,by omega,((ck.trans c3).trans c4).trans' c5 fun i hi=>.inr (o4.Qfb hi).1,?_,rfl⟩ (by rw [hj];omega)
   rw [List.range_succ,List.filter_append,List.filter_cons_of_pos (by simpa using hm)]
   simp only [List.filter_nil]
   have:ivs (List.filter (fun d=>decide (d∈dl tl N)) (List.range i)++[i])=ivs (List.filter (fun d=>decide (d∈dl tl N)) (List.range i))++[.int .i64 (i:Int)]:=by simp [ivs]
   rw [this];exact o5
  ·have hm:i∉dl tl N:=fun k=>by
    obtain ⟨j,e1,_⟩:=fd.on nd k
    omega
   refine LI.again (k:=2*N-(i+1)) ⟨i+1,_,_,_,rfl,by omega,ck.trans c3,?_,rfl⟩ (by rw [hj];omega)
   rw [List.range_succ,List.filter_append,List.filter_cons_of_neg (by simpa using hm),List.filter_nil,List.append_nil]
   exact ow.chg c3 fun _ _ _ h=>h
 ·have:i=2*N:=by omega
  subst this
  have hl:=ow.len
  rw [Qwi,Nat.mul_one] at hl
  subst hl
  exact ⟨c1.trans ck,sb,sc,rfl,VA.Qj9 ow,fun g _ hg k=>by have:=(ow.Qfb hg).1;omega,ow.cap.1⟩
end
end Core
end Go.Proofs.YtpmicakdjhoafaaGreatDoor
namespace Go.Proofs.YtpmicakdjhoafaaGreatDoor
open Go Go.RowKit
namespace Core
open Go.Proofs.YtpmicakdjhoafaaGreatDoor.Seq Go.Proofs.YtpmicakdjhoafaaGreatDoor.Cut Go.Proofs.YtpmicakdjhoafaaGreatDoor.Web
structure Orb (tl:Nat→List Nat) (N d:Nat) (L:List Nat):Prop where
 h:L.head?=some d
 n:L.Nodup
 m:∀x∈L,x∈dl tl N
 c:∀u v,Cy L u v→ph tl N u=v
section
variable {w w':World} {bad:Nat→Prop} {b sb:Option Addr} {l c sc N v d e j u x y:Nat} {E be ce:Int} {A L:List Nat} {V:Value} {tl:Nat→List Nat} {S:Nat→Prop} {q:List (List Nat)} {B D:Nat→Option (Nat × Nat)} {lim:Nat→Prop}
theorem CB.orb (h:CB lim N tl q B D) (hd:d∈dl tl N):∃R,Orb tl N d (d::R):=by
 have hd2:=h.mp.lt d hd
 obtain ⟨A,hA,hdA⟩:=h.al d (by omega)
 obtain ⟨p,s,rfl⟩:=List.append_of_mem hdA
 have hn:(d::(s++p)).Nodup:=by
  have h1:=(List.perm_cons_erase hA).flatten.nodup_iff.1 h.nd
  rw [List.flatten_cons] at h1
  have:=(List.perm_append_comm (l₁:=p) (l₂:=d::s)).nodup_iff.1 (List.nodup_append.1 h1).1
  simpa using this
 refine ⟨s++p,rfl,hn,fun x hx=>Classical.byContradiction fun k=>?_,fun u v k=>h.fq _ hA u v (Qq3.2 (by simpa using k))⟩
 have:=h.alone k (LK.sf ⟨_,hA,hdA,Qf6.2 hx⟩)
 exact k (this ▸ hd)
theorem Orb.pf (h:Orb tl N d L):y∈L↔PF tl N d y:=by
 have hd:d∈L:=List.mem_of_head? h.h
 constructor
 ·intro k
  exact RT.mono (fun u v k=>(h.c u v k).symm) (cy_rt hd k)
 ·intro k
  induction k with
  | refl=>exact hd
  | step _ k ih=>
   subst k
   obtain ⟨z,hz⟩:=cy_ex ih
   rw [h.c _ z hz];exact hz.mem.2
theorem Orb.len (h:Orb tl N d L) (nd:ND N tl):L.length≤2*N:=Qjj h.n fun x hx=>nd.lt x (h.m x hx)
theorem nx_of:∀{L:List Nat} {i:Nat},L[i]?=some x→L[i+1]?=some y→Web.Nx L x y
 | [],_,h,_=>by simp at h
 | a::L,0,h,k=>by simp at h k;left;exact ⟨h,by rw [List.head?_eq_getElem?];exact k⟩
 | a::L,i+1,h,k=>by simp at h k;right;exact nx_of h k
theorem r_Next11 (h:TF w bad b N tl) (hM:MP N tl) (hN:N≤1048576) (hd:d∈dl tl N):Calls Pg Qif #[.agg #[.int .i64 E,.slice b N c],.int .i64 d] w fun r w'=>r=.returned (.int .i64 (ph tl N d:Nat))∧Chg Qac w w':=by
 refine (Qpf _ _ _ _ _ _ (fun v' w'=>v'=.int .i64 (ph tl N d:Nat)∧Chg Qac w w') ?_).mono (by rintro e w' ⟨v,rfl,rfl,k⟩;exact ⟨rfl,k⟩)
 unfold Qlj
 have hlt:=hM.lt d hd
 have htw:=hM.tw d hd
 rw [hM.phE hd]
 refine Qa2 fun A1 w1 hA1 c1 r1=>⟨by omega,?_⟩
 rw [show (2:Int)=((2:Nat):Int) from rfl,Qvz]
 refine Qag (fun k=>Qis r1 ?_) (fun k=>Qis r1 ?_)<;>simp only [b1s] at k<;>rw [wrap64_in (by omega) (by omega)]
 ·have e1:(d:Int)-1=(tw d:Nat):=by unfold tw;rw [if_neg (by omega)];omega
  rw [e1]
  refine (r_Next (h.nob c1) hM.toND hN htw).mono ?_
  rintro r w2 ⟨rfl,c2⟩
  exact ⟨_,rfl,rfl,c1.trans c2⟩
 ·have e1:(d:Int)+1=(tw d:Nat):=by unfold tw;rw [if_pos (by omega)];omega
  rw [e1]
  refine (r_Next (h.nob c1) hM.toND hN htw).mono ?_
  rintro r w2 ⟨rfl,c2⟩
  exact ⟨_,rfl,rfl,c1.trans c2⟩
theorem r_Walk (h:TF w bad b N tl) (hM:MP N tl) (h1:1≤N) (hN:N≤1048576) (ho:Orb tl N d L):Calls Pg Qf3 #[.agg #[.int .i64 (N:Nat),.slice b N c],.int .i64 d] w fun r w'=>∃V,r=.returned V∧Chg Qac w w'∧LA w' (fun k=>k<w.heap.size) V L:=by
 refine (Qpd _ _ _ _ _ _ (fun v' w'=>Chg Qac w w'∧LA w' (fun k=>k<w.heap.size) v' L) ?_).mono (by rintro e w' ⟨v,rfl,k⟩;exact ⟨v,rfl,k⟩)
 unfold Qlh
 have hlen:=ho.len hM.toND
 obtain ⟨R,rfl⟩:∃R,L=d::R:=by
  have:=ho.h
  cases L with
  | nil=>cases this
  | cons a R=>cases this;exact ⟨R,rfl⟩
 refine Qa2 fun A1 w1 hA1 c1 r1=>Qa2 fun A2 w2 hA2 c2 r2=>?_
 have cc:=c1.trans c2
 have q1:=c2.row (fun h=>h) r1
 have s1:=c1.size
 have s2:=c2.size
 let J:Nat→List Value→World→Prop:=fun j vs w'=>∃i:Nat,∃b' c',vs=[.slice b' (i+1) c',.int .i64 i]∧i<(d::R).length∧Chg (fun k=>w1.heap.size≤k) w2 w'∧Row w'.heap A1 Qap [.int .i64 (N:Nat),.slice b N c]∧Own w' w1.heap.size Qbl 1 b' (i+1) c' (ivs ((d::R).take (i+1)))∧j=2*N-i
 have l1:=r1.lt
 have l2:=r2.lt
 refine ⟨LI J,LM J,⟨_,0,_,_,rfl,by simp,Chg.refl _ _,q1,?_,rfl⟩,?_⟩
 ·exact own_one r2 (by omega)
 intro _ sb sl sc i w3 hJ
 obtain ⟨i,b',c',hvs,hi,ck,q3,ow,hj⟩:=hJ.at
 simp only [List.cons.injEq,Value.slice.injEq,Value.int.injEq,and_true,true_and] at hvs
 obtain ⟨⟨rfl,rfl,rfl⟩,rfl⟩:=hvs
 have s3:=ck.size
 have ckw:Chg Qac w w3:=cc.trans' ck fun k e=>.inr (by omega)
 have hlt:(d::R).length≤2*N:=hlen
 refine Qaj (n:=(N:Int)) q3 rfl ?_
 rw [wrap64_in (x:=2*(N:Int)) (by omega) (by omega)]
 refine Qag (fun hc=>?_) (fun hc=>?_)<;>simp only [b1s] at hc
 ·have c4:Chg Qac w3 w3.drew:=(Chg.refl _ _).drew
  have q4:=c4.row (fun h=>h) q3
  have o4:=ow.chg c4 fun _ _ _ h=>h
  have h4:=(h.nob ckw).nob c4
  generalize w3.drew=w4 at *
  have s4:=c4.size
  refine Qis q4 ?_
  rw [wrap64_in (by omega) (by omega),show ((i+1:Nat):Int)-1=(i:Nat) by omega]
  obtain ⟨x,hx⟩:∃x,(d::R)[i]?=some x:=⟨_,List.getElem?_eq_getElem hi⟩
  have hlt1:((d::R).take (i+1)).length=i+1:=by rw [List.length_take];omega
  have hv4:VA w4 sb ((d::R).take (i+1)).length 1 (ivs ((d::R).take (i+1))):=by rw [hlt1];exact VA.Qj9 o4
  rw [←hlt1]
  refine rdI hv4 (d:=x) (by rw [List.getElem?_take,if_pos (by omega)];exact hx) ((r_Next11 h4 hM hN (ho.m x (List.mem_of_getElem? hx))).mono ?_)
  rw [hlt1]
  rintro r w5 ⟨rfl,c5⟩
  have s5:=c5.size
  refine ⟨_,rfl,Qag (fun hc2=>?_) (fun hc2=>?_)⟩<;>simp only [b1s] at hc2
  ·
   have hfull:i+1=(d::R).length:=by
    rcases Nat.lt_or_ge (i+1) (d::R).length with k | k
    ·obtain ⟨y,hy⟩:∃y,(d::R)[i+1]?=some y:=⟨_,List.getElem?_eq_getElem k⟩
     have e1:=ho.c x y (.inl (nx_of hx hy))
     have:y=d:=by omega
     subst this
     have h0:(y::R)[0]?=some y:=rfl
     have:=(List.getElem?_inj k ho.n).1 (hy.trans h0.symm)
     omega
    ·omega
   have o5:=o4.chg c5 fun _ _ _ h=>h
   rw [List.take_of_length_le (by omega),hfull] at o5
   rw [hfull]
   exact ⟨(ckw.trans c4).trans c5,_,_,rfl,VA.Qj9 o5,fun g _ hg k=>by have:=(o5.Qfb hg).1;omega,o5.cap.1⟩
  ·have hmore:i+1<(d::R).length:=by
    rcases Nat.lt_or_ge (i+1) (d::R).length with k | k
    ·exact k
    ·refine absurd ?_ hc2
     have hl:(d::R).getLast?=some x:=by
      rw [List.getLast?_eq_getElem?,show (d::R).length-1=i by omega];exact hx
     rw [ho.c x d (.inr ⟨hl,rfl⟩)]
   obtain ⟨y,hy⟩:∃y,(d::R)[i+1]?=some y:=⟨_,List.getElem?_eq_getElem hmore⟩
   have e1:=ho.c x y (.inl (nx_of hx hy))
   rw [e1,wrap64_in (by omega) (by omega)]
   refine Qa2 fun A3 w6 hA3 c6 r6=>?_
   have o6:=(o4.chg c5 fun _ _ _ h=>h).chg c6 fun _ _ _ h=>h
   have s6:=c6.size
   obtain ⟨b7,c7',w7,g7,o7,c7,_⟩:=Qek (sc:=1) Qke o6 (ty:=Qam) (VA.Qoa (l:=1) (sz:=1) r6 rfl) (by simp [oneC]) (by omega) (by omega) (by omega) (by omega)
   refine ⟨_,_,_,_,g7,LI.again (k:=2*N-(i+1)) ⟨i+1,_,_,rfl,hmore,?_,?_,?_,rfl⟩ (by rw [hj];omega)⟩
   ·exact ((ck.trans ((c4.trans c5).trans c6).weak)).trans (c7.mono fun k _ e=>(o6.Qfb e).1)
   ·exact c7.row (fun e=>by have:=(o6.Qfb e).1;omega) ((c5.trans c6).row (fun h=>h) q4)
   ·have:ivs ((d::R).take (i+1+1))=ivs ((d::R).take (i+1))++[.int .i64 (y:Int)]:=by
     rw [List.take_add_one,hy];simp [ivs]
    rw [this];exact o7
 ·omega
theorem r_At (h:TF w bad b N tl) (nd:ND N tl) (hN:N≤1048576) (hv:v<N) (hc:Cn tl v be):Calls Pg Qhc #[.agg #[.int .i64 E,.slice b N c],.agg #[.int .i64 v,.int .i64 be]] w fun r w'=>r=.returned (.int .i64 (if be=-1 then -1 else ((itm' tl N v be:Nat):Int)))∧Chg Qac w w':=by
 refine (Qrl _ _ _ _ _ _ _ (fun v' w'=>v'=.int .i64 (if be=-1 then -1 else ((itm' tl N v be:Nat):Int))∧Chg Qac w w') ?_).mono (by rintro e w' ⟨v,rfl,rfl,k⟩;exact ⟨rfl,k⟩)
 unfold Qny
 refine Qa2 fun A1 w1 hA1 c1 r1=>Qa2 fun A2 w2 hA2 c2 r2=>Qhj (i:=1) (by omega) (Qaj (n:=be) r2 rfl (Qag (fun k=>?_) (fun k=>?_)))<;>simp only [b1s] at k
 ·rw [if_pos k];exact ⟨rfl,c1.trans c2⟩
 ·rw [if_neg k]
  rcases hc.lk (N:=N) with ⟨h1,_⟩ | ⟨s,h1,rfl,h3⟩
  ·exact absurd h1 k
  rw [h3]
  refine Qis (c2.row (fun h=>h) r1) (Qhj (i:=1) (by omega) (Qaj (n:=(s:Int)) r2 rfl ((r_Next (h.nob (c1.trans c2)) nd hN (Qbq.2 ⟨v,hv,h1⟩)).mono ?_)))
  rintro r w3 ⟨rfl,c3⟩
  exact ⟨_,rfl,rfl,(c1.trans c2).trans c3⟩
theorem pf_out (hx:x∉dl tl N):PF tl N x y↔y=x:=by
 constructor
 ·intro k
  induction k with
  | refl=>rfl
  | step _ k ih=>subst ih;rw [Qd3 hx] at k;exact k
 ·rintro rfl;exact .refl
theorem pf_in (hM:MP N tl) (hx:x∈dl tl N) (k:PF tl N x y):y∈dl tl N:=by
 induction k with
 | refl=>exact hx
 | step _ k ih=>subst k;exact hM.Qvf ih
theorem r_Same (h:TF w bad b N tl) (cb:CB lim N tl q B D) (h1:1≤N) (hN:N≤1048576) (hu:u<N) (hv:v<N) (hcu:Cn tl u be) (hcv:Cn tl v ce) :
  Calls Pg Qie #[.agg #[.int .i64 (N:Nat),.slice b N c],.agg #[.int .i64 u,.int .i64 be],.agg #[.int .i64 v,.int .i64 ce]] w fun r w'=>∃z,r=.returned (.bool z)∧(z=true↔PF tl N (itm' tl N u be) (itm' tl N v ce))∧Chg Qac w w':=by
 refine (Qpe _ _ _ _ _ _ _ _ _ (fun v' w'=>∃z,v'=.bool z∧(z=true↔PF tl N (itm' tl N u be) (itm' tl N v ce))∧Chg Qac w w') ?_).mono (by rintro e w' ⟨v,rfl,z,rfl,k⟩;exact ⟨z,rfl,k⟩)
 unfold Qli
 have hM:=cb.mp
 refine Qa2 fun A1 w1 hA1 c1 r1=>Qa2 fun A2 w2 hA2 c2 r2=>Qa2 fun A3 w3 hA3 c3 r3=>?_
 have c4:Chg Qac w w3.drew:=((c1.trans c2).trans c3).drew
 have q1:Row w3.drew.heap _ _ _:=(c2.trans c3).row (fun h=>h) r1
 have q2:Row w3.drew.heap _ _ _:=c3.row (fun h=>h) r2
 have q3:Row w3.drew.heap _ _ _:=r3
 generalize w3.drew=w4 at *
 rw [Qaf,Qaf]
 refine Qis q1 (Qaj (n:=(u:Int)) q2 rfl (Qaj (n:=be) q2 rfl (Qis q1 (Qaj (n:=(v:Int)) q3 rfl (Qaj (n:=ce) q3 rfl ((r_At (h.nob c4) hM.toND hN hu hcu).mono ?_))))))
 rintro r w5 ⟨rfl,c5⟩
 have p1:=c5.row (fun h=>h) q1
 have p3:=c5.row (fun h=>h) q3
 refine ⟨_,rfl,by rw [p3.cell];rfl,by rw [p3.cell];rfl,Qul p1 ((r_At (h.nob (c4.trans c5)) hM.toND hN hv hcv).mono ?_)⟩
 rintro r w6 ⟨rfl,c6⟩
 have cw:=(c4.trans c5).trans c6
 have o1:=c6.row (fun h=>h) p1
 have o2:=(c5.trans c6).row (fun h=>h) q2
 have o3:=c6.row (fun h=>h) p3
 have out:∀{z},2*N+z∉dl tl N:=fun k=>by have:=hM.lt _ k;omega
 rcases hcu.lk (N:=N) with ⟨rfl,e1,e2⟩ | ⟨s,e1,rfl,e2⟩<;>rcases hcv.lk (N:=N) with ⟨rfl,f1,f2⟩ | ⟨s',f1,rfl,f2⟩<;>rw [e2,f2]
 ·refine ⟨_,rfl,fun _ _=>False,Qag (fun _=>Qag (fun _=>Qhj (i:=0) (by omega) (Qaj (n:=(u:Int)) o2 rfl (Qhj (i:=0) (by omega) (Qaj (n:=(v:Int)) o3 rfl ⟨_,rfl,?_,cw⟩)))) (fun k=>by simp at k)) (fun k=>by simp at k),fun _ _ k=>k.elim⟩
  rw [pf_out out,beq_iff_eq];omega
 ·have hs:=(hM.Qeo (Qbq.2 ⟨v,hv,f1⟩)).1
  have:=hM.lt _ hs
  refine ⟨_,rfl,fun _ _=>False,Qag (fun _=>Qag (fun k=>?_) (fun k=>⟨_,rfl,?_,cw⟩)) (fun k=>by simp at k),fun _ _ k=>k.elim⟩
  ·simp only [b1s] at k;rw [if_neg (by omega)] at k;omega
  ·rw [pf_out out];constructor
   ·intro k;cases k
   ·intro k;omega
 ·have hs:=(hM.Qeo (Qbq.2 ⟨u,hu,e1⟩)).1
  refine ⟨_,rfl,fun _ _=>False,Qag (fun k=>?_) (fun _=>Qag (fun _=>Qag (fun k=>?_) (fun k=>⟨_,rfl,?_,cw⟩)) (fun k=>by simp at k)),fun _ _ k=>k.elim⟩
  ·simp only [b1s] at k;rw [if_neg (by omega)] at k;omega
  ·simp only [b1s] at k;rw [if_neg (by omega)] at k;simp only [if_true] at k;omega
  ·constructor
   ·intro k;cases k
   ·intro k;exact absurd (pf_in hM hs k) out
 ·have hs:=(hM.Qeo (Qbq.2 ⟨u,hu,e1⟩)).1
  rw [if_neg (by omega),if_neg (by omega)]
  refine ⟨_,rfl,fun _ w'=>w'=w6,Qag (fun k=>?_) (fun _=>Qag (fun k=>?_) (fun _=>rfl)),?_⟩
  ·simp only [b1s] at k;omega
  ·simp only [b1s] at k;omega
  rintro _ w7 rfl
  obtain ⟨R,ho⟩:=cb.orb hs
  have hlen:=ho.len hM.toND
  refine Qis o1 ((r_Walk (h.nob cw) hM h1 hN ho).mono ?_)
  rintro r w8 ⟨V,rfl,c8,wb,wc,rfl,hva,_,hlc⟩
  rw [←ho.pf]
  generalize (sg tl N s::R)=L at *
  refine ⟨_,_,_,rfl,?_⟩
  let J:Nat→List Value→World→Prop:=fun j vs w'=>∃i:Nat,vs=[.int .i64 i]∧i≤L.length∧w'=w8∧sg tl N s'∉L.take i∧j=L.length-i
  refine ⟨LI J,LM J,⟨_,0,rfl,by omega,rfl,by simp,rfl⟩,?_⟩
  intro _ i w9 hJ
  obtain ⟨i,hvs,hi,rfl,hno,hj⟩:=hJ.at
  simp only [List.cons.injEq,Value.int.injEq,and_true,true_and] at hvs
  subst hvs
  refine Qag (fun hc=>?_) (fun hc=>?_)<;>simp only [b1s] at hc
  ·have hi':i<L.length:=by omega
   obtain ⟨x,hx⟩:∃x,L[i]?=some x:=⟨_,List.getElem?_eq_getElem hi'⟩
   refine rdI hva hx (Qag (fun hc2=>⟨_,rfl,?_,cw.trans c8⟩) (fun hc2=>?_))<;>simp only [b1s] at hc2
   ·obtain rfl:x=sg tl N s':=by omega
    simp [List.mem_of_getElem? hx]
   ·rw [wrap64_in (by omega) (by omega)]
    refine LI.again (k:=L.length-(i+1)) ⟨i+1,rfl,by omega,rfl,fun hy=>?_,rfl⟩ (by rw [hj];omega)
    rw [List.take_add_one,hx,List.mem_append] at hy
    rcases hy with hy | hy
    ·exact hno hy
    ·simp at hy;exact hc2 (by omega)
  ·rw [List.take_of_length_le (by omega)] at hno
   exact ⟨_,rfl,by simp [hno],cw.trans c8⟩
theorem r_New07 {n:Nat} (hn:n≤1048576):Calls Pg Qjc #[.int .i64 n] w fun r w'=>∃V,r=.returned V∧Chg Qac w w'∧LA w' (fun k=>k<w.heap.size) V (List.range n):=by
 refine (Qqr _ _ (fun v' w'=>Chg Qac w w'∧LA w' (fun k=>k<w.heap.size) v' (List.range n)) ?_).mono (by rintro e w' ⟨v,rfl,k⟩;exact ⟨v,rfl,k⟩)
 unfold Qmv
 refine Qa2 fun A1 w1 hA1 c1 r1=>?_
 have s1:=c1.size
 let J:Nat→List Value→World→Prop:=fun j vs w'=>∃i:Nat,∃b' c',vs=[.slice b' i c',.int .i64 i]∧i≤n∧Chg (fun k=>w.heap.size≤k) w1 w'∧Own w' w.heap.size Qbl 1 b' i c' (ivs (List.range i))∧j=n-i
 refine ⟨LI J,LM J,⟨_,0,_,_,rfl,by omega,Chg.refl _ _,⟨rfl,.inr ⟨A1,0,#[],rfl,hA1,r1,by decide,by decide,rfl,rfl⟩⟩,rfl⟩,?_⟩
 intro _ sb i sc ii w2 hJ
 obtain ⟨i',b',c',hvs,hi,ck,ow,hj⟩:=hJ.at
 simp only [List.cons.injEq,Value.slice.injEq,Value.int.injEq,and_true,true_and] at hvs
 obtain ⟨⟨rfl,rfl,rfl⟩,rfl⟩:=hvs
 have s2:=ck.size
 refine Qag (fun hc=>?_) (fun hc=>?_)<;>simp only [b1s] at hc
 ·refine Qa2 fun A2 w3 hA2 c3 r3=>?_
  have o3:=ow.chg c3 fun _ _ _ h=>h
  have s3:=c3.size
  obtain ⟨b4,c4',w4,g4,o4,c4,_⟩:=Qek (sc:=1) Qke o3 (ty:=Qam) (VA.Qoa (l:=1) (sz:=1) r3 rfl) (by simp [oneC]) (by omega) (by omega) (by omega) (by omega)
  rw [wrap64_in (by omega) (by omega)]
  refine ⟨_,_,_,_,g4,LI.again (k:=n-(i+1)) ⟨i+1,_,_,rfl,by omega,(ck.trans c3.weak).trans (c4.mono fun k _ e=>(o3.Qfb e).1),?_,rfl⟩ (by rw [hj];omega)⟩
  have:ivs (List.range (i+1))=ivs (List.range i)++[.int .i64 (i:Int)]:=by rw [List.range_succ];simp [ivs]
  rw [this];exact o4
 ·obtain rfl:i=n:=by omega
  have e1:(List.range i).length=i:=List.length_range
  refine ⟨c1.trans' ck fun k e=>.inr e,sb,sc,by rw [e1],by rw [e1];exact VA.Qj9 ow,fun g _ hg k=>by have:=(ow.Qfb hg).1;omega,by rw [e1];exact ow.cap.1⟩
def jn (G:Nat→Nat) (a c x:Nat):Nat:=if G x=max (G a) (G c) then min (G a) (G c) else G x
theorem jn_iff {G:Nat→Nat} {a c x y:Nat} (hne:G a≠G c):jn G a c x=jn G a c y↔G x=G y∨(G x=G a∧G c=G y)∨(G x=G c∧G a=G y):=by
 unfold jn
 split<;>split<;>omega
theorem r_Join07 {n a c0:Nat} {G:Nat→Nat} (h:LA w bad V ((List.range n).map G)) (ha:a<n) (hc:c0<n) (hn:n≤1048576) (hbad:∀k,bad k→k<w.heap.size) :
  Calls Pg Qih #[V,.int .i64 a,.int .i64 c0] w fun r w'=>∃V' z,r=.returned (.tuple #[V',.bool z])∧Chg Qac w w'∧(z=true↔G a≠G c0)∧LA w' bad V' ((List.range n).map (if G a=G c0 then G else jn G a c0)):=by
 obtain ⟨b,c,rfl,h1,h2,h3⟩:=h
 have hl:((List.range n).map G).length=n:=by simp
 have hg:∀{i},i<n→((List.range n).map G)[i]?=some (G i):=fun {i} hi=>by rw [List.getElem?_map,List.getElem?_range hi];rfl
 refine (Qpk _ _ _ _ _ _ (fun v' w'=>∃V' z,v'=.tuple #[V',.bool z]∧Chg Qac w w'∧(z=true↔G a≠G c0)∧LA w' bad V' ((List.range n).map (if G a=G c0 then G else jn G a c0))) ?_).mono (by rintro e w' ⟨v,rfl,V',z,rfl,k⟩;exact ⟨V',z,rfl,k⟩)
 unfold Qlo
 have c1:Chg Qac w w.drew:=(Chg.refl _ _).drew
 have c2:Chg Qac w w.drew.drew:=c1.drew
 have g1:=h1.nob c1
 have g2:=h1.nob c2
 generalize w.drew.drew=w2 at *
 generalize w.drew=w1 at *
 refine rdI g1 (hg ha) (rdI g1 (hg hc) (Qag (fun k=>?_) (fun k=>?_)))<;>simp only [b1s] at k
 ·have k:G a=G c0:=by omega
  rw [if_pos k]
  exact ⟨_,_,rfl,c1,⟨fun j=>(by cases j),fun j=>absurd k j⟩,b,c,rfl,g1,h2,h3⟩
 ·have k:G a≠G c0:=by omega
  rw [if_neg k]
  refine rdI g2 (hg ha) (rdI g2 (hg hc) (rdI g2 (hg ha) (rdI g2 (hg hc) ?_)))
  have emax:(if (G c0:Int)>(G a:Int) then (G c0:Int) else (G a:Int))=((max (G a) (G c0):Nat):Int):=by split<;>omega
  have emin:(if (G c0:Int)<(G a:Int) then (G c0:Int) else (G a:Int))=((min (G a) (G c0):Nat):Int):=by split<;>omega
  rw [emax,emin]
  have s2:=c2.size
  let J:Nat→List Value→World→Prop:=fun j vs w'=>∃i:Nat,∃b' c',vs=[.slice b' i c',.int .i64 i]∧i≤n∧Chg Qac w2 w'∧Own w' w2.heap.size Qbl 1 b' i c' (ivs ((List.range i).map (jn G a c0)))∧j=n-i
  refine ⟨LI J,LM J,⟨_,0,_,_,rfl,by omega,Chg.refl _ _,Own.nil,rfl⟩,?_⟩
  intro _ sb i sc ii w3 hJ
  obtain ⟨i',b',c',hvs,hi,ck,ow,hj⟩:=hJ.at
  simp only [List.cons.injEq,Value.slice.injEq,Value.int.injEq,and_true,true_and] at hvs
  obtain ⟨⟨rfl,rfl,rfl⟩,rfl⟩:=hvs
  have s3:=ck.size
  have g3:=g2.nob ck
  have more:∀(y:Nat),y=jn G a c0 i→i<n→alo #[.int .i64 (y:Int)] Qbl w3 fun a22 w23=>∃s24b s24l s24c w25,(Builtin.append_ #[Qam,Qam] Qam #[.slice sb i sc,.slice (some a22) 1 1]).run Pg w23=.ok (.slice s24b s24l s24c) w25∧
    (LI J [.slice s24b s24l s24c,.int .i64 (IntKind.wrap .i64 ((i:Int)+1))] w25∧LM J [.slice s24b s24l s24c,.int .i64 (IntKind.wrap .i64 ((i:Int)+1))] w25<LM J [.slice sb i sc,.int .i64 i] w3):=by
   rintro _ rfl hin
   refine Qa2 fun A2 w4 hA2 c4 r4=>?_
   have o4:=ow.chg c4 fun _ _ _ h=>h
   have s4:=c4.size
   obtain ⟨b5,c5',w5,g5,o5,c5,_⟩:=Qek (sc:=1) Qke o4 (ty:=Qam) (VA.Qoa (l:=1) (sz:=1) r4 rfl) (by simp [oneC]) (by omega) (by omega) (by omega) (by omega)
   rw [wrap64_in (by omega) (by omega)]
   refine ⟨_,_,_,_,g5,LI.again (k:=n-(i+1)) ⟨i+1,_,_,rfl,by omega,(ck.trans c4).trans' c5 fun k e=>.inr (o4.Qfb e).1,?_,rfl⟩ (by rw [hj];omega)⟩
   have:ivs ((List.range (i+1)).map (jn G a c0))=ivs ((List.range i).map (jn G a c0))++[.int .i64 (jn G a c0 i:Int)]:=by rw [List.range_succ];simp [ivs]
   rw [this];exact o5
  rw [hl] at g3 ⊢
  refine Qag (fun hc=>?_) (fun hc=>?_)<;>simp only [b1s] at hc
  ·have hin:i<n:=by omega
   have rd:=fun {K:Int→Prop} (kk:K (G i))=>rdI (A:=(List.range n).map G) (w:=w3) (b:=b) (j:=i) (d:=G i) (K:=K) (by rw [hl];exact g3) (hg hin) kk
   rw [hl] at rd
   refine rd (Qag (fun hc2=>?_) (fun hc2=>?_))<;>simp only [b1s] at hc2
   ·exact more _ (by unfold jn;rw [if_pos (by omega)]) hin
   ·exact rd (more _ (by unfold jn;rw [if_neg (by omega)]) hin)
  ·obtain rfl:i=n:=by omega
   have e1:((List.range i).map (jn G a c0)).length=i:=by simp
   refine ⟨_,_,rfl,c2.trans ck,⟨fun _=>k,fun _=>rfl⟩,sb,sc,by rw [e1],by rw [e1];exact VA.Qj9 ow,fun g _ hg hb=>?_,by rw [e1];exact ow.cap.1⟩
   have:=(ow.Qfb hg).1
   have:=hbad g hb
   omega
theorem r_Groups (h:TF w bad b N tl) (hM:MP N tl) (h1:1≤N) (hN:N≤1048576):Calls Pg Qg1 #[.agg #[.int .i64 (N:Nat),.slice b N c]] w fun r w'=>∃V G,r=.returned V∧Chg Qac w w'∧LA w' (fun k=>k<w.heap.size) V ((List.range N).map G)∧∀x y,x<N→y<N→(G x=G y↔GC tl N x y):=by
 refine (Qnp _ _ _ _ _ (fun v' w'=>∃G,Chg Qac w w'∧LA w' (fun k=>k<w.heap.size) v' ((List.range N).map G)∧∀x y,x<N→y<N→(G x=G y↔GC tl N x y)) ?_).mono (by rintro e w' ⟨v,rfl,G,k⟩;exact ⟨v,G,rfl,k⟩)
 unfold Qj4
 refine Qa2 fun A1 w1 hA1 c1 r1=>?_
 rw [Qaf]
 refine Qba r1 rfl ((r_New07 hN).mono ?_)
 rintro r w2 ⟨V0,rfl,c2,b0,c0,rfl,hv0,ho0,hc0⟩
 have s1:=c1.size
 have s2:=c2.size
 refine ⟨_,_,_,rfl,Qis (c2.row (fun h=>h) r1) ((r_Darts (h.nob (c1.trans c2)) hM.toND h1 hN).mono ?_)⟩
 rintro r w3 ⟨V1,rfl,c3,b1,d1,rfl,hv1,ho1,hc1⟩
 have s3:=c3.size
 refine ⟨_,_,_,rfl,?_⟩
 have cw:=(c1.trans c2).trans c3
 have q1:=(c2.trans c3).row (fun h=>h) r1
 have h3:=h.nob cw
 have hdn:((List.range (2*N)).filter fun d=>decide (d∈dl tl N)).length≤2*N:=by
  have:=List.length_filter_le (fun d=>decide (d∈dl tl N)) (List.range (2*N))
  rwa [List.length_range] at this
 have hdm:∀d,d∈(List.range (2*N)).filter (fun d=>decide (d∈dl tl N))↔d∈dl tl N:=fun d=>by
  rw [List.mem_filter,List.mem_range,decide_eq_true_iff]
  exact ⟨fun k=>k.2,fun k=>⟨hM.lt d k,k⟩⟩
 generalize (List.range (2*N)).filter (fun d=>decide (d∈dl tl N))=L at *
 let lk:(Nat→Prop)→Nat→Nat→Prop:=fun P=>RT fun x y=>∃e,P (2*e)∧((x=og tl N (2*e)∧y=og tl N (2*e+1))∨(x=og tl N (2*e+1)∧y=og tl N (2*e)))
 let J:Nat→List Value→World→Prop:=fun j vs w'=>∃i:Nat,∃V G,vs=[V,.int .i64 i]∧i≤L.length∧Chg Qac w3 w'∧LA w' (fun k=>k<w.heap.size) V ((List.range N).map G)∧(∀x y,x<N→y<N→(G x=G y↔lk (fun d=>d∈L.take i) x y))∧j=L.length-i
 refine ⟨LI J,LM J,⟨_,0,_,id,rfl,by omega,Chg.refl _ _,?_,?_,rfl⟩,?_⟩
 ·rw [List.map_id]
  have h0:LA w2 (fun k=>k<w1.heap.size) (.slice b0 (List.range N).length c0) (List.range N):=⟨b0,c0,rfl,hv0,ho0,hc0⟩
  exact (h0.nob c3).weak fun k hk=>Nat.lt_of_lt_of_le hk s1
 ·intro x y _ _
  constructor
  ·intro k;rw [show x=y from k];exact .refl
  ·intro k
   induction k with
   | refl=>rfl
   | step _ k _=>obtain ⟨e,k,_⟩:=k;simp at k
 intro _ sb sl sc i w4 hJ
 obtain ⟨i,V,G,hvs,hi,ck,hla,hG,hj⟩:=hJ.at
 simp only [List.cons.injEq,Value.int.injEq,and_true,true_and] at hvs
 obtain ⟨rfl,rfl⟩:=hvs
 have s4:=ck.size
 refine Qag (fun hc=>?_) (fun hc=>?_)<;>simp only [b1s] at hc
 ·have hi':i<L.length:=by omega
  obtain ⟨x,hx⟩:∃x,L[i]?=some x:=⟨_,List.getElem?_eq_getElem hi'⟩
  have hxm:=(hdm x).1 (List.mem_of_getElem? hx)
  have hxl:=hM.lt x hxm
  refine rdI (hv1.nob ck) hx ⟨by omega,?_⟩
  rw [show (2:Int)=((2:Nat):Int) from rfl,Qvz]
  refine Qag (fun hc2=>?_) (fun hc2=>?_)<;>simp only [b1s] at hc2
  ·obtain ⟨e,rfl⟩:∃e,x=2*e:=⟨x/2,by omega⟩
   have he:Laid tl N e:=hxm
   have c5:=ck.trans ((Chg.refl Qac w4).drew)
   have hla5:=hla.nob ((Chg.refl Qac w4).drew)
   generalize w4.drew=w5 at *
   refine Qis (c5.row (fun h=>h) q1) (rdI (hv1.nob c5) hx ((Qto (h3.nob c5) hM.toND hN).mono ?_))
   rintro r w6 ⟨z,k,rfl,c6,fd⟩
   obtain ⟨k,rfl,rfl,_⟩:=fd.on hM.toND he
   refine ⟨_,_,rfl,?_⟩
   have c7:=(c5.trans c6).trans ((Chg.refl Qac w6).drew)
   have hla7:=hla5.nob (c6.trans ((Chg.refl Qac w6).drew))
   generalize w6.drew=w7 at *
   refine Qis (c7.row (fun h=>h) q1) (rdI (hv1.nob c7) hx ?_)
   rw [wrap64_in (by omega) (by omega),show ((2*e:Nat):Int)+1=((2*e+1:Nat):Int) by omega]
   refine (Qto (h3.nob c7) hM.toND hN).mono ?_
   rintro r w8 ⟨z,k2,rfl,c8,fd⟩
   obtain ⟨k2,rfl,rfl,_⟩:=fd.on hM.toND (hM.odd he)
   have s7:=(c7.trans c8).size
   have o1:=(Qcc he).1
   have o2:=(Qcc (hM.odd he)).1
   refine ⟨_,_,rfl,(r_Join07 (hla7.nob c8) o1 o2 hN fun k hk=>by omega).mono ?_⟩
   rintro r w9 ⟨V9,z,rfl,c9,hz,hla9⟩
   obtain ⟨b9,d9,rfl,hv9,ho9,hc9⟩:=hla9
   refine ⟨_,_,_,_,rfl,?_⟩
   rw [wrap64_in (by omega) (by omega)]
   refine LI.again (k:=L.length-(i+1)) ⟨i+1,_,_,rfl,by omega,(c7.trans c8).trans c9,⟨b9,d9,rfl,hv9,ho9,hc9⟩,fun x y hx' hy'=>?_,rfl⟩ (by rw [hj];omega)
   have key:lk (fun d=>d∈L.take (i+1)) x y↔lk (fun d=>d∈L.take i) x y∨(lk (fun d=>d∈L.take i) x (og tl N (2*e))∧lk (fun d=>d∈L.take i) (og tl N (2*e+1)) y)∨(lk (fun d=>d∈L.take i) x (og tl N (2*e+1))∧lk (fun d=>d∈L.take i) (og tl N (2*e)) y):=by
    refine Qyd (fun x y ⟨e,k1,k2⟩=>⟨e,k1,k2.symm.imp (fun k=>⟨k.2,k.1⟩) fun k=>⟨k.2,k.1⟩⟩) fun u v=>?_
    rw [List.take_add_one,hx]
    constructor
    ·rintro ⟨e',k1,k2⟩
     rcases List.mem_append.1 k1 with k1 | k1
     ·exact .inl ⟨e',k1,k2⟩
     ·simp at k1
      obtain rfl:e'=e:=by omega
      exact .inr k2
    ·rintro (⟨e',k1,k2⟩ | k2)
     ·exact ⟨e',List.mem_append_left _ k1,k2⟩
     ·exact ⟨e,List.mem_append_right _ (by simp),k2⟩
   rw [key,←hG x y hx' hy',←hG x _ hx' o1,←hG _ y o2 hy',←hG x _ hx' o2,←hG _ y o1 hy']
   by_cases hg:G (og tl N (2*e))=G (og tl N (2*e+1))
   ·rw [if_pos hg];omega
   ·rw [if_neg hg,jn_iff hg]
  ·rw [wrap64_in (by omega) (by omega)]
   refine LI.again (k:=L.length-(i+1)) ⟨i+1,_,_,rfl,by omega,ck,hla,fun a c ha hc'=>?_,rfl⟩ (by rw [hj];omega)
   rw [hG a c ha hc']
   have:∀e,2*e∈L.take (i+1)↔2*e∈L.take i:=fun e=>by
    rw [List.take_add_one,hx,List.mem_append]
    constructor
    ·rintro (k | k)
     ·exact k
     ·simp at k;omega
    ·exact .inl
   constructor
   ·exact RT.mono fun u v ⟨e,k1,k2⟩=>⟨e,(this e).2 k1,k2⟩
   ·exact RT.mono fun u v ⟨e,k1,k2⟩=>⟨e,(this e).1 k1,k2⟩
 ·refine ⟨G,cw.trans ck,hla,fun x y hx hy=>?_⟩
  rw [hG x y hx hy,List.take_of_length_le (by omega)]
  constructor
  ·exact RT.mono fun u v ⟨e,k1,k2⟩=>⟨e,(hdm _).1 k1,k2⟩
  ·exact RT.mono fun u v ⟨e,k1,k2⟩=>⟨e,(hdm _).2 k1,k2⟩
theorem r_Legal (h:TF w bad b N tl) (cb:CB lim N tl q B D) (h1:1≤N) (hN:N≤1048576) (hu:u<N) (hv:v<N) (hcu:Cn tl u be) (hcv:Cn tl v ce) :
  Calls Pg Qhl #[.agg #[.int .i64 (N:Nat),.slice b N c],.agg #[.int .i64 u,.int .i64 be],.agg #[.int .i64 v,.int .i64 ce]] w fun r w'=>∃z,r=.returned (.bool z)∧(z=true↔Lgl tl N u be v ce)∧Chg Qac w w':=by
 refine (Qoe _ _ _ _ _ _ _ _ _ (fun v' w'=>∃z,v'=.bool z∧(z=true↔Lgl tl N u be v ce)∧Chg Qac w w') ?_).mono (by rintro e w' ⟨v,rfl,z,rfl,k⟩;exact ⟨z,rfl,k⟩)
 unfold Qkm Lgl
 refine Qa2 fun A1 w1 hA1 c1 r1=>Qa2 fun A2 w2 hA2 c2 r2=>Qa2 fun A3 w3 hA3 c3 r3=>?_
 have c4:=(c1.trans c2).trans c3
 have q1:=(c2.trans c3).row (fun h=>h) r1
 have q2:=c3.row (fun h=>h) r2
 refine Qis q1 ((r_Groups (h.nob c4) cb.mp h1 hN).mono ?_)
 rintro r w5 ⟨V,G,rfl,c5,⟨b5,d5,rfl,hv5,_,_⟩,hG⟩
 have hl:((List.range N).map G).length=N:=by simp
 have hg:∀{i},i<N→((List.range N).map G)[i]?=some (G i):=fun {i} hi=>by rw [List.getElem?_map,List.getElem?_range hi];rfl
 have c6:=c5.trans ((Chg.refl Qac w5).drew)
 have p1:=c6.row (fun h=>h) q1
 have p2:=c6.row (fun h=>h) q2
 have p3:=c6.row (fun h=>h) r3
 have hv6:=hv5.nob ((Chg.refl Qac w5).drew)
 refine ⟨_,_,_,rfl,?_⟩
 generalize w5.drew=w6 at *
 have c7:=c4.trans c6
 refine Qhj (i:=0) (by omega) (Qaj (n:=(u:Int)) p2 rfl (rdI hv6 (hg hu) (Qhj (i:=0) (by omega) (Qaj (n:=(v:Int)) p3 rfl (rdI hv6 (hg hv) (Qag (fun k=>⟨_,rfl,?_,c7⟩) (fun k=>?_)))))))<;>simp only [b1s] at k
 ·refine ⟨fun _=>.inr fun j=>?_,fun _=>rfl⟩
  have:=(hG u v hu hv).2 j
  omega
 ·have hgc:=(hG u v hu hv).1 (by omega)
  rw [Qaf,Qaf]
  refine Qis p1 (Qaj (n:=(u:Int)) p2 rfl (Qaj (n:=be) p2 rfl (Qaj (n:=(v:Int)) p3 rfl (Qaj (n:=ce) p3 rfl ((r_Same (h.nob c7) cb h1 hN hu hv hcu hcv).mono ?_)))))
  rintro r w8 ⟨z,rfl,hz,c8⟩
  exact ⟨_,rfl,_,rfl,by rw [hz];exact ⟨.inl,fun k=>k.resolve_right fun k=>k hgc⟩,c7.trans c8⟩
end
end Core
end Go.Proofs.YtpmicakdjhoafaaGreatDoor
namespace Go.Proofs.YtpmicakdjhoafaaGreatDoor
open Go Go.RowKit
namespace Core
open Go.Proofs.YtpmicakdjhoafaaGreatDoor.Seq Go.Proofs.YtpmicakdjhoafaaGreatDoor.Cut Go.Proofs.YtpmicakdjhoafaaGreatDoor.Web
section
variable {w w':World} {A A2:Nat} {ty ty2:TypeId} {n m:Int} {b b2 b3:Option Addr} {l c l2 c2 l3 c3:Nat} {cs:List Value}
theorem Qgp {K:Int→Option Addr→Nat→Nat→Int→Option Addr→Nat→Nat→Option Addr→Nat→Nat→Prop} (r:Row w.heap A ty [.int .i64 n,.slice b l c,.int .i64 m,.slice b2 l2 c2,.slice b3 l3 c3]) (k:K n b l c m b2 l2 c2 b3 l3 c3):Qaa ⟨A,0,none⟩ w K:=
 Qaj r rfl (Qba r rfl (Qaj r rfl (Qba r rfl (Qba r rfl k))))
theorem Qxi {K:Int→Option Addr→Nat→Nat→Prop} (r:Row w.heap A ty [.int .i64 n,.slice b l c,.int .i64 m,.slice b2 l2 c2,.slice b3 l3 c3]) (k:K m b2 l2 c2):Qad (Addr.add ⟨A,0,none⟩ 2) w K:=
 Qaj r rfl (Qba r rfl k)
theorem stsT2_r {K:World→Prop} {v0 v1 v2 v3 v4 u2 u3:Value} (r:Row w.heap A ty [v0,v1,v2,v3,v4]) (h2:oneC u2=true) (h3:oneC u3=true) (k:∀w',Chg (·=A) w w'→Row w'.heap A ty [v0,v1,u2,u3,v4]→K w'):sts (Addr.add ⟨A,0,none⟩ 2) 0 [u2,u3] w K:=by
 show sto (Addr.add ⟨A,0,none⟩ 2) u2 w fun w1=>sto ((Addr.add ⟨A,0,none⟩ 2).add 1) u3 w1 K
 rw [Qaf,Qaf]
 exact Qdb r (by simp) h2 fun w1 c1 r1=>Qdb r1 (by simp) h3 fun w2 c2 r2=>k _ (c1.trans c2) r2
theorem cpM {K:Int→Option Addr→Nat→Nat→Int→Option Addr→Nat→Nat→Option Addr→Nat→Nat→World→Prop} (r:Row w.heap A ty [.int .i64 n,.slice b l c,.int .i64 m,.slice b2 l2 c2,.slice b3 l3 c3]) (r2:Row w.heap A2 ty2 cs) (hl:cs.length=5) (k:∀w',Chg (·=A2) w w'→K n b l c m b2 l2 c2 b3 l3 c3 w') :
  Qaa ⟨A,0,none⟩ w fun x0 xb xl xc x1 yb yl yc zb zl zc=>sts ⟨A2,0,none⟩ 0 [.int .i64 x0,.slice xb xl xc,.int .i64 x1,.slice yb yl yc,.slice zb zl zc] w fun w'=>Qaa ⟨A2,0,none⟩ w' fun x0 xb xl xc x1 yb yl yc zb zl zc=>K x0 xb xl xc x1 yb yl yc zb zl zc w':=
 Qgp r (Qr1 r2 (by simp [hl]) (by simp [oneC]) fun w' c' r'=>Qgp r' (k w' c'))
theorem cpM2 {K:Int→Option Addr→Nat→Nat→Int→Option Addr→Nat→Nat→Option Addr→Nat→Nat→World→Prop} (r2:Row w.heap A2 ty2 cs) (hl:cs.length=5) (k:∀w',Chg (·=A2) w w'→K n b l c m b2 l2 c2 b3 l3 c3 w') :
  sts ⟨A2,0,none⟩ 0 [.int .i64 n,.slice b l c,.int .i64 m,.slice b2 l2 c2,.slice b3 l3 c3] w fun w'=>Qaa ⟨A2,0,none⟩ w' fun x0 xb xl xc x1 yb yl yc zb zl zc=>K x0 xb xl xc x1 yb yl yc zb zl zc w':=
 Qr1 r2 (by simp [hl]) (by simp [oneC]) fun w' c' r'=>Qgp r' (k w' c')
end
def wc (W:Nat→Int) (e:Nat):List Value:=[.int .i32 (W e)]
def mV (N:Nat) (lb:Option Addr) (lc:Nat) (tb:Option Addr) (tc:Nat) (wb:Option Addr) (wc:Nat):Value:=.agg #[.int .i64 (N:Nat),.slice lb N lc,.int .i64 (N:Nat),.slice tb N tc,.slice wb N wc]
structure XR (w:World) (bad:Nat→Prop) (N:Nat) (lv:Nat→Bool) (tl:Nat→List Nat) (W:Nat→Int) (lb tb wb:Option Addr):Prop where
 l:VA w lb N 1 (recs (bc lv) N)
 lo:Okb bad N lb
 t:TF w bad tb N tl
 w:VA w wb N 1 (recs (wc W) N)
 wo:Okb bad N wb
section
variable {w w':World} {bad bad':Nat→Prop} {lb tb wb b:Option Addr} {lc tc wc' l c N d:Nat} {be ce:Int} {lv:Nat→Bool} {tl:Nat→List Nat} {W:Nat→Int} {S:Nat→Prop} {q:List (List Nat)} {B D:Nat→Option (Nat × Nat)} {lim:Nat→Prop}
theorem XR.keep (h:XR w bad N lv tl W lb tb wb) (k:Chg S w w') (hS:∀i,S i→bad i):XR w' bad N lv tl W lb tb wb:=
 ⟨h.l.keep k fun g hl hg hs=>h.lo g hl hg (hS g hs),h.lo,h.t.keep k hS,h.w.keep k fun g hl hg hs=>h.wo g hl hg (hS g hs),h.wo⟩
theorem XR.nob (h:XR w bad N lv tl W lb tb wb) (k:Chg Qac w w'):XR w' bad N lv tl W lb tb wb:=h.keep k fun _ h=>h.elim
theorem XR.weak (h:XR w bad N lv tl W lb tb wb) (k:∀i,bad' i→bad i):XR w bad' N lv tl W lb tb wb:=
 ⟨h.l,fun g hl hg hb=>h.lo g hl hg (k g hb),h.t.weak k,h.w,fun g hl hg hb=>h.wo g hl hg (k g hb)⟩
theorem okb_old {xs:List Value} {sz n:Nat} (h:VA w b l sz xs) (ho:Okb bad l b):Okb (fun k=>bad k∨(w.heap.size≤k∧k<n)) l b:=fun g hl hg hb=>by
 obtain ⟨g2,e2,hlt⟩:=h.blk hl
 rw [e2] at hg
 cases hg
 exact hb.elim (ho _ hl e2) fun k=>by omega
theorem XR.old {n:Nat} (h:XR w bad N lv tl W lb tb wb):XR w (fun k=>bad k∨(w.heap.size≤k∧k<n)) N lv tl W lb tb wb:=
 ⟨h.l,okb_old h.l h.lo,h.t.old,h.w,okb_old h.w h.wo⟩
theorem wc_len (x:Nat):(wc W x).length=1:=rfl
theorem Qq5 {n:Nat} (hbad:∀k,bad k→k<w.heap.size) {w2:World} (h1:w.heap.size≤w2.heap.size) (h2:n≤w2.heap.size):∀k,(bad k∨(w.heap.size≤k∧k<n))→k<w2.heap.size:=fun k hk=>hk.elim (fun j=>by have:=hbad k j;omega) fun j=>by omega
theorem Qwb {v:Int} (h:XR w bad N lv tl W lb tb wb):Calls Pg Qde #[mV N lb lc tb tc wb wc',.int .i64 v] w fun r w'=>r=.returned (.int .i64 (vE lv N v))∧Chg Qac w w':=by
 refine (Qno _ _ _ _ _ _ _ _ _ _ _ _ _ (fun v' w'=>v'=.int .i64 (vE lv N v)∧Chg Qac w w') ?_).mono (by rintro e w' ⟨v,rfl,rfl,k⟩;exact ⟨rfl,k⟩)
 unfold Qj3 vE
 refine Qa2 fun A1 w1 hA1 c1 r1=>Qag (fun k=>?_) (fun k=>Qaj (n:=(N:Int)) r1 rfl (Qag (fun k=>?_) (fun k=>?_)))<;>simp only [b1s] at *
 ·rw [if_neg (by omega)];exact ⟨rfl,c1⟩
 ·rw [if_neg (by omega)];exact ⟨rfl,c1⟩
 ·obtain ⟨v,rfl⟩:∃x:Nat,v=x:=⟨v.toNat,by omega⟩
  have hv:v<N:=by omega
  rw [if_pos (by omega),Int.toNat_natCast,Qaf]
  refine Qba r1 rfl ((h.l.nob c1).ix hv fun g o ty cs rg _ hcs=>ldB_r (n:=lv v) rg ?_ (Qag (fun k=>?_) (fun k=>?_)))
  ·have:=hcs 0 (by omega)
   rwa [Nat.mul_one,Nat.add_zero,Nat.add_zero,Qvr hv] at this
  ·rw [if_neg (fun e=>by rw [e] at k;cases k)];exact ⟨rfl,c1⟩
  ·rw [if_pos (by cases hh:lv v<;>simp_all)];exact ⟨rfl,c1⟩
theorem r_Edge {e:Int} (h:XR w bad N lv tl W lb tb wb) (nd:ND N tl) (hN:N≤1048576):Calls Pg Qea #[mV N lb lc tb tc wb wc',.int .i64 e] w fun r w'=>r=.returned (.int .i64 (eE tl N e))∧Chg Qac w w':=by
 refine (Qpc _ _ _ _ _ _ _ _ _ _ _ _ _ (fun v' w'=>v'=.int .i64 (eE tl N e)∧Chg Qac w w') ?_).mono (by rintro e w' ⟨v,rfl,rfl,k⟩;exact ⟨rfl,k⟩)
 unfold Qlg eE
 refine Qa2 fun A1 w1 hA1 c1 r1=>Qag (fun k=>?_) (fun k=>Qaj (n:=(N:Int)) r1 rfl (Qag (fun k=>?_) (fun k=>?_)))<;>simp only [b1s] at *
 ·rw [if_neg (by omega)];exact ⟨rfl,c1⟩
 ·rw [if_neg (by omega)];exact ⟨rfl,c1⟩
 ·obtain ⟨e,rfl⟩:∃x:Nat,e=x:=⟨e.toNat,by omega⟩
  have he:e<N:=by omega
  rw [if_pos (by omega),Int.toNat_natCast,(wrap2 he hN).1]
  refine Qxi r1 ((Qto (h.t.nob c1) nd hN).mono ?_)
  rintro r w2 ⟨z,i,rfl,c2,fd⟩
  by_cases hl:Laid tl N e
  ·obtain ⟨j,rfl,_⟩:=fd.on nd hl
   exact ⟨_,_,rfl,Qag (fun k=>by (simp only [b1s] at k;omega)) fun _=>⟨by rw [if_pos hl],c1.trans c2⟩⟩
  ·obtain ⟨rfl, rfl⟩ := fd.off fun d hd k => hl (by have : d = 2 * e := by omega
                                                    subst this;exact hd)
   exact ⟨_,_,rfl,Qag (fun _=>⟨by rw [if_neg hl],c1.trans c2⟩) fun k=>by simp at k⟩
theorem Qxb {v be:Int} (h:XR w bad N lv tl W lb tb wb) (nd:ND N tl) (hN:N≤1048576):Calls Pg Qe6 #[mV N lb lc tb tc wb wc',.agg #[.int .i64 v,.int .i64 be]] w fun r w'=>r=.returned (.int .i64 (kE lv tl N v be))∧Chg Qac w w':=by
 refine (Qod _ _ _ _ _ _ _ _ _ _ _ _ _ _ (fun v' w'=>v'=.int .i64 (kE lv tl N v be)∧Chg Qac w w') ?_).mono (by rintro e w' ⟨v,rfl,rfl,k⟩;exact ⟨rfl,k⟩)
 unfold Qkl kE
 refine Qa2 fun A1 w1 hA1 c1 r1=>Qa2 fun A2 w2 hA2 c2 r2=>?_
 have c3:=c1.trans c2
 have q1:=c2.row (fun h=>h) r1
 refine Qgp q1 (Qhj (i:=0) (by omega) (Qaj (n:=v) r2 rfl ((Qwb (h.nob c3)).mono ?_)))
 rintro r w3 ⟨rfl,c4⟩
 refine ⟨_,rfl,Qag (fun k=>?_) (fun k=>?_)⟩<;>simp only [b1s] at k
 ·rw [if_neg k];exact ⟨rfl,c3.trans c4⟩
 ·rw [if_pos k]
  refine Qxi (c4.row (fun h=>h) q1) (Qhj (i:=0) (by omega) (Qaj (n:=v) (c4.row (fun h=>h) r2) rfl (Qhj (i:=1) (by omega) (Qaj (n:=be) (c4.row (fun h=>h) r2) rfl ((Qyh (h.t.nob (c3.trans c4)) nd hN).mono ?_)))))
  rintro r w4 ⟨rfl,c5⟩
  exact ⟨_,rfl,rfl,(c3.trans c4).trans c5⟩
theorem ET_bool:ET Pg Qjs Qna 1 1:=ET.of (by kernel_rfl) (by kernel_rfl)
theorem cpS {t e:TypeId} {by_ sc v:Nat} {g:Nat→List Value} {x:Value} {f:Nat→List Value} {K:Option Addr→Nat→Nat→World→Prop} (T:ET Pg t e 1 by_) (h:VA w b N 1 (recs f N)) (hf:∀i,(f i).length=1) (h1:∀u∈recs f N,oneC u=true) (hx:oneC x=true) (hv:v<N) (hN:N*by_≤140737488355328) (hN2:N≤1048576)
  (hg:∀i,i≠v→g i=f i) (hgv:g v=[x]) (hbad:∀k,bad k→k<w.heap.size) (k:∀b' c' w',Chg Qac w w'→VA w' b' N 1 (recs g N)→Okb bad N b'→K b' N c' w') :
  ∃s3b s3l s3c w4,(Builtin.append_ #[t,t] t #[.slice none 0 0,.slice b N sc]).run Pg w=.ok (.slice s3b s3l s3c) w4∧ixS s3b s3l (v:Int) 1 fun a5=>sto a5 x w4 fun w6=>K s3b s3l s3c w6:=by
 obtain ⟨b',c',w4,hr,ho,c4⟩:=Qh7 (sc:=sc) T (ty:=t) h h1 hN (by omega)
 refine ⟨_,_,_,_,hr,?_⟩
 obtain ⟨g0,cs,rfl,hg0,rg,ht,_,hcs⟩:=ho.get (by omega)
 refine Qb3 hv ?_
 rw [Nat.zero_add,Nat.mul_one]
 have hcl:N≤cs.length:=by
  have:=congrArg List.length ht
  rw [List.length_take,Qaq _ hf] at this
  omega
 have hgl:∀i,(g i).length=1:=fun i=>by
  by_cases hi:i=v
  ·rw [hi,hgv];rfl
  ·rw [hg i hi];exact hf i
 refine Qdb rg (by omega) hx fun w5 c5 rg5=>k _ _ _ (c4.trans' c5 fun i e=>.inr (by omega)) ⟨Qaq _ hgl _,.inr ⟨g0,0,_,_,rfl,rg5,?_⟩⟩ fun g' _ e hb=>?_
 ·rw [List.drop_zero,List.take_set,ht]
  have:=Qfx (k:=0) f hf (g:=g) (v:=x) hv (by omega) hg (by
   rw [hgv]
   have:=hf v
   match h0:f v,this with
   | [y],_=>rfl)
  rwa [Nat.mul_one,Nat.add_zero] at this
 ·obtain rfl:g0=g':=Option.some.inj e
  have:=hbad _ hb
  omega
theorem bc_one:∀u∈recs (bc lv) N,oneC u=true:=by
 intro u hu
 obtain ⟨i,hi,hu⟩:=List.mem_flatMap.1 hu
 simp [bc] at hu;rw [hu];rfl
theorem wc_one:∀u∈recs (wc W) N,oneC u=true:=by
 intro u hu
 obtain ⟨i,hi,hu⟩:=List.mem_flatMap.1 hu
 simp [wc] at hu;rw [hu];rfl
theorem r_with {v:Nat} {z:Bool} (h:VA w b N 1 (recs (bc lv) N)) (hv:v<N) (hN:N≤1048576) (hbad:∀k,bad k→k<w.heap.size):Calls Pg Qf2 #[.slice b N c,.int .i64 v,.bool z] w fun r w'=>∃b' c',r=.returned (.slice b' N c')∧Chg Qac w w'∧VA w' b' N 1 (recs (bc (upd lv v z)) N)∧Okb bad N b':=by
 refine (Qo9 _ _ _ _ _ _ (fun v' w'=>∃b' c',v'=.slice b' N c'∧Chg Qac w w'∧VA w' b' N 1 (recs (bc (upd lv v z)) N)∧Okb bad N b') ?_).mono (by rintro e w' ⟨v,rfl,b',c',rfl,k⟩;exact ⟨b',c',rfl,k⟩)
 unfold Qld
 exact cpS ET_bool h (fun _=>rfl) bc_one rfl hv (by omega) hN (fun i hi=>by unfold bc;rw [Qak _ _ hi]) (by unfold bc;rw [Qab]) hbad fun b' c' w' k1 k2 k3=>⟨_,_,rfl,k1,k2,k3⟩
theorem Qxa {e:Nat} {z:Int} (h:XR w bad N lv tl W lb tb wb) (he:e<N) (hN:N≤1048576) (hbad:∀k,bad k→k<w.heap.size) :
  Calls Pg Qd9 #[mV N lb lc tb tc wb wc',.int .i64 e,.int .i32 z] w fun r w'=>∃b' c',r=.returned (mV N lb lc tb tc b' c')∧Chg Qac w w'∧XR w' bad N lv tl (upd W e z) lb tb b':=by
 refine (Qm7 _ _ _ _ _ _ _ _ _ _ _ _ _ _ (fun v' w'=>∃b' c',v'=mV N lb lc tb tc b' c'∧Chg Qac w w'∧XR w' bad N lv tl (upd W e z) lb tb b') ?_).mono (by rintro e w' ⟨v,rfl,b',c',rfl,k⟩;exact ⟨b',c',rfl,k⟩)
 unfold Qjg
 refine Qa2 fun A1 w1 hA1 c1 r1=>Qa2 fun A2 w2 hA2 c2 r2=>?_
 have c3:=c1.trans c2
 have q1:=c2.row (fun h=>h) r1
 have s1:=c1.size
 have s2:=c2.size
 have l1:=r1.lt
 have l2:=r2.lt
 have h2:XR w2 (fun k=>bad k∨(w.heap.size≤k∧k<w2.heap.size)) N lv tl W lb tb wb:=(h.old (n:=w2.heap.size)).nob c3
 rw [Qaf]
 refine Qba q1 rfl (cpS (bad:=fun k=>bad k∨(w.heap.size≤k∧k<w2.heap.size)) Qt3 h2.w wc_len wc_one rfl he (by omega) hN (g:=wc (upd W e z)) (fun i hi=>by unfold wc;rw [Qak _ _ hi]) (by unfold wc;rw [Qab]) (Qq5 hbad (by omega) (by omega)) fun b' c' w4 k1 k2 k3=>?_)
 refine Qdb (k1.row (fun h=>h) q1) (by simp) rfl fun w5 k5 r5=>cpM r5 (k5.row (by omega) (k1.row (fun h=>h) r2)) rfl fun w6 k6=>⟨_,_,rfl,?_,?_⟩
 ·exact ((c3.trans k1).trans' k5 fun i e=>.inr (by omega)).trans' k6 fun i e=>.inr (by omega)
 ·have h4:XR w4 (fun k=>bad k∨(w.heap.size≤k∧k<w2.heap.size)) N lv tl (upd W e z) lb tb b':=⟨h2.l.nob k1,h2.lo,h2.t.nob k1,k2,k3⟩
  exact ((h4.keep k5 fun i e=>.inr (by omega)).keep k6 fun i e=>.inr (by omega)).weak fun k hk=>.inl hk
def aE (lv:Nat→Bool) (N:Nat) (v:Int):Int:=if vE lv N v=0 then 20 else if vE lv N v=12 then 12 else 0
theorem aE_0 {v:Int}:aE lv N v=0↔0≤v∧v<N∧lv v.toNat=false:=by
 unfold aE vE
 by_cases h0:0≤v∧v<N
 ·simp only [if_pos h0]
  cases hl:lv v.toNat<;>simp [h0]
 ·simp only [if_neg h0]
  simp;omega
def AcR (w₀:World) (bad:Nat→Prop) (N:Nat) (er:Int) (lv lv':Nat→Bool) (tl tl':Nat→List Nat) (W W':Nat→Int) (v:Value) (w':World):Prop:=
 ∃lb lc tb tc wb wc',v=.tuple #[mV N lb lc tb tc wb wc',.int .i64 er]∧Chg Qac w₀ w'∧(er≠0→XR w' bad N lv tl W lb tb wb)∧(er=0→XR w' bad N lv' tl' W' lb tb wb)
theorem Que {v:Int} (h:XR w bad N lv tl W lb tb wb) (hN:N≤1048576) (hbad:∀k,bad k→k<w.heap.size):Calls Pg Qe7 #[mV N lb lc tb tc wb wc',.int .i64 v] w fun r w'=>∃V,r=.returned V∧AcR w bad N (aE lv N v) lv (upd lv v.toNat true) tl tl W W V w':=by
 refine (Qk0 _ _ _ _ _ _ _ _ _ _ _ _ _ (fun v' w'=>AcR w bad N (aE lv N v) lv (upd lv v.toNat true) tl tl W W v' w') ?_).mono (fun e w' k=>k)
 unfold Qh4
 refine Qa2 fun A1 w1 hA1 c1 r1=>Qa2 fun A2 w2 hA2 c2 r2=>?_
 have c3:=c1.trans c2
 have q1:=c2.row (fun h=>h) r1
 have s1:=c1.size
 have s2:=c2.size
 have l1:=r1.lt
 have l2:=r2.lt
 have h2:XR w2 (fun k=>bad k∨(w.heap.size≤k∧k<w2.heap.size)) N lv tl W lb tb wb:=(h.old (n:=w2.heap.size)).nob c3
 refine Qgp q1 ((Qwb h2).mono ?_)
 rintro r w3 ⟨rfl,c4⟩
 have h3:=h2.nob c4
 have s3:=c4.size
 have q13:=c4.row (fun h=>h) q1
 have q23:=c4.row (fun h=>h) r2
 have stay:∀{er:Int} {w4:World},aE lv N v=er→er≠0→Chg (·=A2) w3 w4→AcR w bad N (aE lv N v) lv (upd lv v.toNat true) tl tl W W (.tuple #[mV N lb lc tb tc wb wc',.int .i64 er]) w4:=fun {er w4} e0 e1 k=>by
  subst e0
  exact ⟨lb,lc,tb,tc,wb,wc',rfl,(c3.trans c4).trans' k fun i e=>.inr (by omega),fun _=>(h3.keep k fun i e=>.inr (by omega)).weak fun k hk=>.inl hk,fun e=>absurd e e1⟩
 refine ⟨_,rfl,Qag (fun k=>cpM q13 q23 rfl fun w4 k4=>?_) (fun k=>Qag (fun k2=>cpM q13 q23 rfl fun w4 k4=>?_) (fun k2=>?_))⟩<;>simp only [b1s] at *
 ·exact stay (by unfold aE;rw [if_pos k]) (by omega) k4
 ·exact stay (by unfold aE;rw [if_neg k,if_pos k2,k2]) (by omega) k4
 ·have e0:aE lv N v=0:=by unfold aE;rw [if_neg k,if_neg k2]
  obtain ⟨x,rfl⟩:∃x:Nat,v=x:=⟨v.toNat,by have:=aE_0.1 e0;omega⟩
  have hx:=aE_0.1 e0
  rw [Qaf,e0,Int.toNat_natCast]
  refine Qba q13 rfl ((r_with h3.l (by omega) hN (Qq5 hbad (by omega) (by omega))).mono ?_)
  rintro r w4 ⟨b',c',rfl,k4,k5,k6⟩
  refine ⟨_,_,_,rfl,Qdb (k4.row (fun h=>h) q13) (by simp) rfl fun w5 c5 r5=>cpM r5 (c5.row (by omega) (k4.row (fun h=>h) q23)) rfl fun w6 c6=>⟨_,_,_,_,_,_,rfl,?_,fun e=>absurd rfl e,fun _=>?_⟩⟩
  ·exact (((c3.trans c4).trans k4).trans' c5 fun i e=>.inr (by omega)).trans' c6 fun i e=>.inr (by omega)
  ·have h4:XR w4 (fun k=>bad k∨(w.heap.size≤k∧k<w2.heap.size)) N (upd lv x true) tl W b' tb wb:=⟨k5,k6,h3.t.nob k4,h3.w.nob k4,h3.wo⟩
   exact ((h4.keep c5 fun i e=>.inr (by omega)).keep c6 fun i e=>.inr (by omega)).weak fun k hk=>.inl hk
theorem Qtp {v:Int} (h:XR w bad N lv tl W lb tb wb) (nd:ND N tl) (hN:N≤1048576) (hbad:∀k,bad k→k<w.heap.size):Calls Pg Qey #[mV N lb lc tb tc wb wc',.int .i64 v] w fun r w'=>∃V,r=.returned V∧AcR w bad N (drE lv tl N v) lv (upd lv v.toNat false) tl tl W W V w':=by
 refine (Qkw _ _ _ _ _ _ _ _ _ _ _ _ _ (fun v' w'=>AcR w bad N (drE lv tl N v) lv (upd lv v.toNat false) tl tl W W v' w') ?_).mono (fun e w' k=>k)
 unfold Qhs
 refine Qa2 fun A1 w1 hA1 c1 r1=>Qa2 fun A2 w2 hA2 c2 r2=>?_
 have c3:=c1.trans c2
 have q1:=c2.row (fun h=>h) r1
 have s1:=c1.size
 have s2:=c2.size
 have l1:=r1.lt
 have l2:=r2.lt
 have h2:XR w2 (fun k=>bad k∨(w.heap.size≤k∧k<w2.heap.size)) N lv tl W lb tb wb:=(h.old (n:=w2.heap.size)).nob c3
 refine Qgp q1 ((Qwb h2).mono ?_)
 rintro r w3 ⟨rfl,c4⟩
 have h3:=h2.nob c4
 have s3:=c4.size
 have q13:=c4.row (fun h=>h) q1
 have q23:=c4.row (fun h=>h) r2
 have stay:∀{er:Int} {w4:World},drE lv tl N v=er→er≠0→Chg (·=A2) w3 w4→AcR w bad N (drE lv tl N v) lv (upd lv v.toNat false) tl tl W W (.tuple #[mV N lb lc tb tc wb wc',.int .i64 er]) w4:=fun {er w4} e0 e1 k=>by
  subst e0
  exact ⟨lb,lc,tb,tc,wb,wc',rfl,(c3.trans c4).trans' k fun i e=>.inr (by omega),fun _=>(h3.keep k fun i e=>.inr (by omega)).weak fun k hk=>.inl hk,fun e=>absurd e e1⟩
 refine ⟨_,rfl,Qag (fun k=>cpM q13 q23 rfl fun w4 k4=>?_) (fun k=>?_)⟩<;>simp only [b1s] at k
 ·exact stay (by unfold drE;rw [if_neg k]) k k4
 have hx:0≤v∧v<N:=by
  unfold vE at k
  split at k
  ·assumption
  ·cases k
 obtain ⟨x,rfl⟩:∃x:Nat,v=x:=⟨v.toNat,by omega⟩
 rw [Qaf,Qaf]
 refine Qba q13 rfl (h3.t.rd (by omega) fun eb ec k1 k2 k3=>Qag (fun j=>cpM q13 q23 rfl fun w4 k4=>?_) (fun j=>?_))<;>simp only [b1s] at j
 ·refine stay ?_ (by omega) k4
  unfold drE
  rw [if_pos k,Int.toNat_natCast,if_neg (fun e=>by rw [e] at j;simp at j)]
 ·have e0:drE lv tl N x=0:=by unfold drE;rw [if_pos k,Int.toNat_natCast,if_pos (List.length_eq_zero_iff.1 (by omega))]
  rw [Qaf,e0,Int.toNat_natCast]
  refine Qba q13 rfl ((r_with h3.l (by omega) hN (Qq5 hbad (by omega) (by omega))).mono ?_)
  rintro r w4 ⟨b',c',rfl,k4,k5,k6⟩
  refine ⟨_,_,_,rfl,Qdb (k4.row (fun h=>h) q13) (by simp) rfl fun w5 c5 r5=>cpM r5 (c5.row (by omega) (k4.row (fun h=>h) q23)) rfl fun w6 c6=>⟨_,_,_,_,_,_,rfl,?_,fun e=>absurd rfl e,fun _=>?_⟩⟩
  ·exact (((c3.trans c4).trans k4).trans' c5 fun i e=>.inr (by omega)).trans' c6 fun i e=>.inr (by omega)
  ·have h4:XR w4 (fun k=>bad k∨(w.heap.size≤k∧k<w2.heap.size)) N (upd lv x false) tl W b' tb wb:=⟨k5,k6,h3.t.nob k4,h3.w.nob k4,h3.wo⟩
   exact ((h4.keep c5 fun i e=>.inr (by omega)).keep c6 fun i e=>.inr (by omega)).weak fun k hk=>.inl hk
theorem eE_0 {e:Int} (h:eE tl N e=0):∃x:Nat,e=x∧x<N∧Laid tl N x:=by
 unfold eE at h
 split at h
 ·refine ⟨e.toNat,by omega,by omega,?_⟩
  split at h
  ·assumption
  ·cases h
 ·cases h
theorem r_Part {e:Int} (h:XR w bad N lv tl W lb tb wb) (hM:MP N tl) (hN:N≤1048576) (hbad:∀k,bad k→k<w.heap.size):Calls Pg Qic #[mV N lb lc tb tc wb wc',.int .i64 e] w fun r w'=>∃V,r=.returned V∧AcR w bad N (eE tl N e) lv lv tl (lift tl N e.toNat) W W V w':=by
 refine (Qpa _ _ _ _ _ _ _ _ _ _ _ _ _ (fun v' w'=>AcR w bad N (eE tl N e) lv lv tl (lift tl N e.toNat) W W v' w') ?_).mono (fun e w' k=>k)
 unfold Qle
 refine Qa2 fun A1 w1 hA1 c1 r1=>Qa2 fun A2 w2 hA2 c2 r2=>?_
 have c3:=c1.trans c2
 have q1:=c2.row (fun h=>h) r1
 have s1:=c1.size
 have s2:=c2.size
 have l1:=r1.lt
 have l2:=r2.lt
 have h2:XR w2 (fun k=>bad k∨(w.heap.size≤k∧k<w2.heap.size)) N lv tl W lb tb wb:=(h.old (n:=w2.heap.size)).nob c3
 refine Qgp q1 ((r_Edge h2 hM.toND hN).mono ?_)
 rintro r w3 ⟨rfl,c4⟩
 have h3:=h2.nob c4
 have s3:=c4.size
 have q13:=c4.row (fun h=>h) q1
 have q23:=c4.row (fun h=>h) r2
 refine ⟨_,rfl,Qag (fun k=>cpM q13 q23 rfl fun w4 k4=>?_) (fun k=>?_)⟩<;>simp only [b1s] at k
 ·exact ⟨lb,lc,tb,tc,wb,wc',rfl,(c3.trans c4).trans' k4 fun i e=>.inr (by omega),fun _=>(h3.keep k4 fun i e=>.inr (by omega)).weak fun k hk=>.inl hk,fun e=>absurd e k⟩
 obtain ⟨x,rfl,hx,hl⟩:=eE_0 k
 rw [k,Int.toNat_natCast]
 refine Qxi q13 ((r_Lift h3.t hM hN hl (Qq5 hbad (by omega) (by omega))).mono ?_)
 rintro r w4 ⟨b',c',rfl,k4,k5⟩
 refine ⟨_,_,_,_,_,rfl,stsT2_r (k4.row (fun h=>h) q13) rfl rfl fun w5 c5 r5=>cpM r5 (c5.row (by omega) (k4.row (fun h=>h) q23)) rfl fun w6 c6=>⟨_,_,_,_,_,_,rfl,?_,fun e=>absurd rfl e,fun _=>?_⟩⟩
 ·exact (((c3.trans c4).trans k4).trans' c5 fun i e=>.inr (by omega)).trans' c6 fun i e=>.inr (by omega)
 ·have h4:XR w4 (fun k=>bad k∨(w.heap.size≤k∧k<w2.heap.size)) N lv (lift tl N x) W lb b' wb:=⟨h3.l.nob k4,h3.lo,k5,h3.w.nob k4,h3.wo⟩
  exact ((h4.keep c5 fun i e=>.inr (by omega)).keep c6 fun i e=>.inr (by omega)).weak fun k hk=>.inl hk
theorem r_Weigh {e z:Int} (h:XR w bad N lv tl W lb tb wb) (nd:ND N tl) (hN:N≤1048576) (hbad:∀k,bad k→k<w.heap.size):Calls Pg Qhk #[mV N lb lc tb tc wb wc',.int .i64 e,.int .i32 z] w fun r w'=>∃V,r=.returned V∧AcR w bad N (eE tl N e) lv lv tl tl W (upd W e.toNat z) V w':=by
 refine (Qoc _ _ _ _ _ _ _ _ _ _ _ _ _ _ (fun v' w'=>AcR w bad N (eE tl N e) lv lv tl tl W (upd W e.toNat z) v' w') ?_).mono (fun e w' k=>k)
 unfold Qkk
 refine Qa2 fun A1 w1 hA1 c1 r1=>Qa2 fun A2 w2 hA2 c2 r2=>?_
 have c3:=c1.trans c2
 have q1:=c2.row (fun h=>h) r1
 have s1:=c1.size
 have s2:=c2.size
 have l1:=r1.lt
 have l2:=r2.lt
 have h2:XR w2 (fun k=>bad k∨(w.heap.size≤k∧k<w2.heap.size)) N lv tl W lb tb wb:=(h.old (n:=w2.heap.size)).nob c3
 refine Qgp q1 ((r_Edge h2 nd hN).mono ?_)
 rintro r w3 ⟨rfl,c4⟩
 have h3:=h2.nob c4
 have s3:=c4.size
 have q13:=c4.row (fun h=>h) q1
 have q23:=c4.row (fun h=>h) r2
 refine ⟨_,rfl,Qag (fun k=>cpM q13 q23 rfl fun w4 k4=>?_) (fun k=>Qgp q13 ?_)⟩<;>simp only [b1s] at k
 ·exact ⟨lb,lc,tb,tc,wb,wc',rfl,(c3.trans c4).trans' k4 fun i e=>.inr (by omega),fun _=>(h3.keep k4 fun i e=>.inr (by omega)).weak fun k hk=>.inl hk,fun e=>absurd e k⟩
 obtain ⟨x,rfl,hx,hl⟩:=eE_0 k
 rw [k,Int.toNat_natCast]
 refine (Qxa h3 hx hN (Qq5 hbad (by omega) (by omega))).mono ?_
 rintro r w4 ⟨b',c',rfl,k4,k5⟩
 refine ⟨_,_,_,_,_,_,_,_,_,_,_,rfl,cpM2 (k4.row (fun h=>h) q23) rfl fun w6 c6=>⟨_,_,_,_,_,_,rfl,((c3.trans c4).trans k4).trans' c6 fun i e=>.inr (by omega),fun e=>absurd rfl e,fun _=>?_⟩⟩
 exact (k5.keep c6 fun i e=>.inr (by omega)).weak fun k hk=>.inl hk
theorem r_Join {e u be v ce z:Int} (h:XR w bad N lv tl W lb tb wb) (cb:CB lim N tl q B D) (h1:1≤N) (hN:N≤1048576) (hbad:∀k,bad k→k<w.heap.size) :
  Calls Pg Qid #[mV N lb lc tb tc wb wc',.int .i64 e,.agg #[.int .i64 u,.int .i64 be],.agg #[.int .i64 v,.int .i64 ce],.int .i32 z] w fun r w'=>∃V,r=.returned V∧AcR w bad N (jE lv tl N e u be v ce) lv lv tl (lay tl e.toNat u.toNat be v.toNat ce) W (upd W e.toNat z) V w':=by
 refine (Qpb _ _ _ _ _ _ _ _ _ _ _ _ _ _ _ _ _ _ (fun v' w'=>AcR w bad N (jE lv tl N e u be v ce) lv lv tl (lay tl e.toNat u.toNat be v.toNat ce) W (upd W e.toNat z) v' w') ?_).mono (fun e w' k=>k)
 unfold Qlf
 have hM:=cb.mp
 refine Qa2 fun A1 w1 hA1 c1 r1=>Qa2 fun A2 w2 hA2 c2 r2=>Qa2 fun A3 w3 hA3 c3 r3=>Qa2 fun A4 w4 hA4 c4 r4=>?_
 have cc:=((c1.trans c2).trans c3).trans c4
 have q1:=((c2.trans c3).trans c4).row (fun h=>h) r1
 have q2:=(c3.trans c4).row (fun h=>h) r2
 have q3:=c4.row (fun h=>h) r3
 have s1:=c1.size
 have s2:=c2.size
 have s3:=c3.size
 have s4:=c4.size
 have l1:=r1.lt
 have l4:=r4.lt
 have h4:XR w4 (fun k=>bad k∨(w.heap.size≤k∧k<w4.heap.size)) N lv tl W lb tb wb:=(h.old (n:=w4.heap.size)).nob cc
 have stay:∀{er:Int} {w5 w6:World},Chg Qac w4 w5→jE lv tl N e u be v ce=er→er≠0→Chg (·=A4) w5 w6→AcR w bad N (jE lv tl N e u be v ce) lv lv tl (lay tl e.toNat u.toNat be v.toNat ce) W (upd W e.toNat z) (.tuple #[mV N lb lc tb tc wb wc',.int .i64 er]) w6:=fun {er w5 w6} k0 e0 e1 k=>by
  subst e0
  exact ⟨lb,lc,tb,tc,wb,wc',rfl,(cc.trans k0).trans' k fun i e=>.inr (by omega),fun _=>((h4.nob k0).keep k fun i e=>.inr (by omega)).weak fun k hk=>.inl hk,fun e=>absurd e e1⟩
 refine Qgp q1 ((r_Edge h4 hM.toND hN).mono ?_)
 rintro r w5 ⟨rfl,c5⟩
 have p1:=c5.row (fun h=>h) q1
 have p2:=c5.row (fun h=>h) q2
 have p3:=c5.row (fun h=>h) q3
 have p4:=c5.row (fun h=>h) r4
 have hjE:jE lv tl N e u be v ce=if 0≤e∧e<N then (if Laid tl N e.toNat then 20 else if k2E lv tl N u be v ce=0 then (if Classical.propDecidable (Lgl tl N u.toNat be v.toNat ce) |>.decide then 0 else 15) else k2E lv tl N u be v ce) else 12:=by
  unfold jE
  by_cases hl:Lgl tl N u.toNat be v.toNat ce<;>simp [hl]
 refine ⟨_,rfl,Qag (fun k=>cpM p1 p4 rfl fun w6 k6=>?_) (fun k=>Qag (fun k2=>cpM p1 p4 rfl fun w6 k6=>?_) (fun k2=>Qgp p1 ?_))⟩<;>simp only [b1s] at *
 ·obtain ⟨x,rfl,hx,hl⟩:=eE_0 k
  exact stay c5 (by unfold jE;rw [if_pos (by omega),Int.toNat_natCast,if_pos hl]) (by omega) k6
 ·have hne:¬(0≤e∧e<N):=fun j=>by
   unfold eE at k2
   rw [if_pos j] at k2
   split at k2<;>cases k2
  rw [k2]
  exact stay c5 (by unfold jE;rw [if_neg hne]) (by omega) k6
 have he:0≤e∧e<N:=Classical.byContradiction fun j=>k2 (by unfold eE;rw [if_neg j])
 obtain ⟨e,rfl⟩:∃x:Nat,e=x:=⟨e.toNat,by omega⟩
 have hla:¬Laid tl N e:=fun j=>k (by unfold eE;rw [if_pos he,Int.toNat_natCast,if_pos j])
 rw [Qaf,Qaf]
 refine Qaj (n:=u) p2 rfl (Qaj (n:=be) p2 rfl ((Qxb (h4.nob c5) hM.toND hN).mono ?_))
 rintro r w6 ⟨rfl,c6⟩
 have c56:=c5.trans c6
 refine ⟨_,rfl,fun vs w'=>vs=[.int .i64 (k2E lv tl N u be v ce)]∧Chg Qac w4 w',Qag (fun j=>Qgp (c56.row (fun h=>h) q1) (Qaj (n:=v) (c56.row (fun h=>h) q3) rfl (Qaj (n:=ce) (c56.row (fun h=>h) q3) rfl ((Qxb (h4.nob c56) hM.toND hN).mono ?_)))) (fun j=>?_),?_⟩
 ·rintro r w7 ⟨rfl,c7⟩
  simp only [b1s] at j
  exact ⟨_,rfl,by unfold k2E;rw [if_pos j],c56.trans c7⟩
 ·simp only [b1s] at j
  exact ⟨by unfold k2E;rw [if_neg j],c56⟩
 rintro _ k2 w7 ⟨hk2,c7⟩
 simp only [List.cons.injEq,Value.int.injEq,and_true,true_and] at hk2
 subst hk2
 have o1:=c7.row (fun h=>h) q1
 have o2:=c7.row (fun h=>h) q2
 have o3:=c7.row (fun h=>h) q3
 have o4:=c7.row (fun h=>h) r4
 refine Qag (fun j=>cpM o1 o4 rfl fun w8 k8=>?_) (fun j=>Qxi o1 ?_)<;>simp only [b1s] at j
 ·exact stay c7 (by unfold jE;rw [if_pos he,Int.toNat_natCast,if_neg hla,if_neg j]) j k8
 have hk1:kE lv tl N u be=0:=Classical.byContradiction fun k=>by unfold k2E at j;rw [if_neg k] at j;exact k j
 have hk2:kE lv tl N v ce=0:=by unfold k2E at j;rwa [if_pos hk1] at j
 obtain ⟨u,rfl,hu,hlu,hcu⟩:=kE_0 hk1
 obtain ⟨v,rfl,hv,hlv,hcv⟩:=kE_0 hk2
 refine Qaj (n:=(u:Int)) o2 rfl (Qaj (n:=be) o2 rfl (Qaj (n:=(v:Int)) o3 rfl (Qaj (n:=ce) o3 rfl ((r_Legal (h4.t.nob c7) cb h1 hN hu hv hcu hcv).mono ?_))))
 rintro r w8 ⟨lg,rfl,hlg,c8⟩
 have c78:=c7.trans c8
 have m1:=c78.row (fun h=>h) q1
 have m2:=c78.row (fun h=>h) q2
 have m3:=c78.row (fun h=>h) q3
 have m4:=c78.row (fun h=>h) r4
 refine ⟨_,rfl,Qag (fun i=>cpM m1 m4 rfl fun w9 k9=>?_) (fun i=>Qxi m1 ?_)⟩
 ·refine stay c78 ?_ (by omega) k9
  unfold jE
  rw [if_pos he,Int.toNat_natCast,if_neg hla,if_pos j,Int.toNat_natCast,Int.toNat_natCast,if_neg]
  intro hh;rw [hlg.2 hh] at i;cases i
 have e0:jE lv tl N e u be v ce=0:=by
  unfold jE
  rw [if_pos he,Int.toNat_natCast,if_neg hla,if_pos j,Int.toNat_natCast,Int.toNat_natCast,if_pos]
  exact hlg.1 (by cases lg<;>simp_all)
 rw [e0,Int.toNat_natCast,Int.toNat_natCast,Int.toNat_natCast]
 have oe:∀{x:Nat} {be:Int},kE lv tl N x be=0→oE tl N x be=0:=fun {x be} hk=>by
  unfold kE at hk
  split at hk
  ·exact hk
  ·contradiction
 have s7:=c78.size
 refine Qaj (n:=(u:Int)) m2 rfl (Qaj (n:=be) m2 rfl (Qaj (n:=(v:Int)) m3 rfl (Qaj (n:=ce) m3 rfl ((r_Lay (h4.t.nob c78) hM hN (by omega) hla hu hv (oe hk1) (oe hk2) (Qq5 hbad (by omega) s7)).mono ?_))))
 rintro r w9 ⟨b9,c9',rfl,c9,h9⟩
 have s9:=c9.size
 refine ⟨_,_,_,_,_,rfl,stsT2_r (c9.row (fun h=>h) m1) rfl rfl fun w10 c10 r10=>Qgp r10 ?_⟩
 have h10:XR w10 (fun k=>bad k∨(w.heap.size≤k∧k<w4.heap.size)) N lv (lay tl e u be v ce) W lb b9 wb:=by
  have:XR w9 (fun k=>bad k∨(w.heap.size≤k∧k<w4.heap.size)) N lv (lay tl e u be v ce) W lb b9 wb:=⟨(h4.nob (c78.trans c9)).l,h4.lo,h9,(h4.nob (c78.trans c9)).w,h4.wo⟩
  exact this.keep c10 fun i e=>.inr (by omega)
 have s10:=c10.size
 refine (Qxa h10 (by omega) hN (Qq5 hbad (by omega) (by omega))).mono ?_
 rintro r w11 ⟨b11,c11',rfl,c11,h11⟩
 refine ⟨_,_,_,_,_,_,_,_,_,_,_,rfl,cpM2 ((c10.trans c11.weak).row (by omega) (c9.row (fun h=>h) m4)) rfl fun w12 c12=>⟨_,_,_,_,_,_,rfl,?_,fun e=>absurd rfl e,fun _=>?_⟩⟩
 ·exact ((((cc.trans c78).trans c9).trans' c10 fun i e=>.inr (by omega)).trans c11).trans' c12 fun i e=>.inr (by omega)
 ·exact (h11.keep c12 fun i e=>.inr (by omega)).weak fun k hk=>.inl hk
theorem r_Vertices (h:XR w bad N lv tl W lb tb wb) (hN:N≤1048576):Calls Pg Qfl #[mV N lb lc tb tc wb wc'] w fun r w'=>∃V,r=.returned V∧Chg Qac w w'∧LA w' (fun k=>k<w.heap.size) V ((List.range N).filter lv):=by
 refine (Qmk _ _ _ _ _ _ _ _ _ _ _ _ (fun v' w'=>Chg Qac w w'∧LA w' (fun k=>k<w.heap.size) v' ((List.range N).filter lv)) ?_).mono (by rintro e w' ⟨v,rfl,k⟩;exact ⟨v,rfl,k⟩)
 unfold Qiu
 refine Qa2 fun A1 w1 hA1 c1 r1=>?_
 have s1:=c1.size
 let J:Nat→List Value→World→Prop:=fun j vs w'=>∃i:Nat,∃b' l' c',vs=[.slice b' l' c',.int .i64 i]∧i≤N∧Chg Qac w1 w'∧Own w' w1.heap.size Qbl 1 b' l' c' (ivs ((List.range i).filter lv))∧j=N-i
 refine ⟨LI J,LM J,⟨_,0,none,0,0,rfl,by omega,Chg.refl _ _,Own.nil,rfl⟩,?_⟩
 intro _ sb sl sc i w2 hJ
 obtain ⟨i,b',l',c',hvs,hi,ck,ow,hj⟩:=hJ.at
 simp only [List.cons.injEq,Value.slice.injEq,Value.int.injEq,and_true,true_and] at hvs
 obtain ⟨⟨rfl,rfl,rfl⟩,rfl⟩:=hvs
 have r2:=ck.row (fun h=>h) r1
 have s2:=ck.size
 have hl':sl≤i:=by
  have:=ow.len
  rw [Qwi,Nat.mul_one] at this
  rw [←this]
  have:=List.length_filter_le lv (List.range i)
  rwa [List.length_range] at this
 refine Qaj (n:=(N:Int)) r2 rfl (Qag (fun hc=>?_) (fun hc=>?_))<;>simp only [b1s] at hc
 ·rw [Qaf]
  refine Qba r2 rfl (((h.l.nob c1).nob ck).ix (by omega) fun g o ty cs rg _ hcs=>ldB_r (n:=lv i) rg ?_ (Qag (fun hc2=>?_) (fun hc2=>?_)))<;>try rw [wrap64_in (by omega) (by omega)]
  ·have:=hcs 0 (by omega)
   rwa [Nat.mul_one,Nat.add_zero,Nat.add_zero,Qvr (by omega)] at this
  ·refine Qa2 fun A2 w4 hA2 c4 r4=>?_
   have o4:=ow.chg c4 fun _ _ _ h=>h
   have s4:=c4.size
   obtain ⟨b5,c5',w5,g5,o5,c5,_⟩:=Qek (sc:=1) Qke o4 (ty:=Qam) (VA.Qoa (l:=1) (sz:=1) r4 rfl) (by simp [oneC]) (by omega) (by omega) (by omega) (by omega)
   refine ⟨_,_,_,_,g5,?_⟩
   refine LI.again (k:=N-(i+1)) ⟨i+1,_,_,_,rfl,by omega,(ck.trans c4).trans' c5 fun i hi=>.inr (o4.Qfb hi).1,?_,rfl⟩ (by rw [hj];omega)
   rw [List.range_succ,List.filter_append,List.filter_cons_of_pos hc2]
   simp only [List.filter_nil]
   have:ivs (List.filter lv (List.range i)++[i])=ivs (List.filter lv (List.range i))++[.int .i64 (i:Int)]:=by simp [ivs]
   rw [this];exact o5
  ·refine LI.again (k:=N-(i+1)) ⟨i+1,_,_,_,rfl,by omega,ck,?_,rfl⟩ (by rw [hj];omega)
   rw [List.range_succ,List.filter_append,List.filter_cons_of_neg (by rw [hc2];simp),List.filter_nil,List.append_nil]
   exact ow
 ·have:i=N:=by omega
  subst this
  have hl:=ow.len
  rw [Qwi,Nat.mul_one] at hl
  subst hl
  exact ⟨c1.trans ck,sb,sc,rfl,VA.Qj9 ow,fun g _ hg k=>by have:=(ow.Qfb hg).1;omega,ow.cap.1⟩
theorem r_New16 (h1:1≤N) (hN:N≤1048576) (hbad:∀k,bad k→k<w.heap.size):Calls Pg Qgs #[.int .i64 N] w fun r w'=>∃lb lc tb tc wb wc',r=.returned (mV N lb lc tb tc wb wc')∧Chg Qac w w'∧XR w' bad N (fun _=>false) (fun _=>[]) (fun _=>0) lb tb wb:=by
 refine (Qqn _ _ (fun v' w'=>∃lb lc tb tc wb wc',v'=mV N lb lc tb tc wb wc'∧Chg Qac w w'∧XR w' bad N (fun _=>false) (fun _=>[]) (fun _=>0) lb tb wb) ?_).mono (by rintro e w' ⟨v,rfl,a,b,c,d,e,f,rfl,k⟩;exact ⟨a,b,c,d,e,f,rfl,k⟩)
 unfold Qmr
 refine Qa2 fun A1 w1 hA1 c1 r1=>?_
 have s1:=c1.size
 have l1:=r1.lt
 have c2:=(Chg.refl Qac w1).drew
 have q1:=c2.row (fun h=>h) r1
 have s2:=c2.size
 generalize w1.drew=w2 at *
 have cw:=c1.trans c2
 have i0:(0:Int)≤(N:Int):=by omega
 have ie:=Int.le_refl (N:Int)
 simp only [Int.toNat_natCast]
 have hb2:∀{w3:World},w2.heap.size≤w3.heap.size→∀k,(bad k∨(w.heap.size≤k∧k<w2.heap.size))→k<w3.heap.size:=fun h=>Qq5 hbad (by omega) (by omega)
 have fin:∀(w3:World) (L X:Nat) (tb:Option Addr) (tc:Nat),Chg Qac w2 w3→w2.heap.size≤L→w2.heap.size≤X→Row w3.heap L Qna (recs (fun _=>[.bool false]) N)→Row w3.heap X Qbb (recs (fun _=>[.int .i32 0]) N)→TF w3 (fun k=>bad k∨(w.heap.size≤k∧k<w2.heap.size)) tb N (fun _=>[])→
   sts ⟨A1,0,none⟩ 0 [.int .i64 (N:Nat),.slice (some ⟨L,0,none⟩) N N,.int .i64 (N:Nat),.slice tb N tc,.slice (some ⟨X,0,none⟩) N N] w3 fun w'=>Qaa ⟨A1,0,none⟩ w' fun x0 xb xl xc x1 yb yl yc zb zl zc=>(fun v' w'=>∃lb lc tb tc wb wc',v'=mV N lb lc tb tc wb wc'∧Chg Qac w w'∧XR w' bad N (fun _=>false) (fun _=>[]) (fun _=>0) lb tb wb) (.agg #[.int .i64 x0,.slice xb xl xc,.int .i64 x1,.slice yb yl yc,.slice zb zl zc]) w':=by
  intro w3 L X tb tc k hL hX rL rX ht
  refine cpM2 (k.row (fun h=>h) q1) rfl fun w4 c4=>⟨_,_,_,_,_,_,rfl,(cw.trans k).trans' c4 fun i e=>.inr (by omega),?_⟩
  have:XR w3 (fun k=>bad k∨(w.heap.size≤k∧k<w2.heap.size)) N (fun _=>false) (fun _=>[]) (fun _=>0) (some ⟨L,0,none⟩) tb (some ⟨X,0,none⟩):=by
   refine ⟨VA.Qoa rL (by rw [Qaq _ (sz:=1) (fun _=>rfl)]),fun g _ e hb=>?_,ht,VA.Qoa rX (by rw [Qaq _ (sz:=1) (fun _=>rfl)]),fun g _ e hb=>?_⟩
   ·obtain rfl:L=g:=Option.some.inj e
    have:=hb2 (Nat.le_refl _) _ hb
    omega
   ·obtain rfl:X=g:=Option.some.inj e
    have:=hb2 (Nat.le_refl _) _ hb
    omega
  exact (this.keep c4 fun i e=>.inr (by omega)).weak fun k hk=>.inl hk
 have nw:=fun (w3:World) (h:w2.heap.size≤w3.heap.size)=>r_New (w:=w3) (bad:=fun k=>bad k∨(w.heap.size≤k∧k<w2.heap.size)) h1 hN (hb2 h)
 refine ⟨⟨i0,ie,by omega,Qa2 fun L w3 hL c3 rL=>⟨(nw w3 c3.size).mono ?_,i0,ie,by omega,Qa2 fun X w4 hX c4 rX=>(nw w4 (Nat.le_trans c3.size c4.size)).mono ?_⟩⟩,((nw w2 (Nat.le_refl _)).mono ?_),i0,ie,by omega,Qa2 fun X w3 hX c3 rX=>⟨⟨i0,ie,by omega,Qa2 fun L w4 hL c4 rL=>(nw w4 (Nat.le_trans c3.size c4.size)).mono ?_⟩,(nw w3 c3.size).mono ?_⟩⟩
 ·rintro r w4 ⟨tb,tc,rfl,c4,ht⟩
  rw [Qbt] at rL
  refine ⟨_,_,_,_,rfl,i0,ie,by omega,Qa2 fun X w5 hX c5 rX=>?_⟩
  rw [Qbt] at rX
  have:=c3.size
  have:=c4.size
  exact fin _ _ _ _ _ ((c3.trans c4).trans c5) (by omega) (by omega) ((c4.trans c5).row (fun h=>h) rL) rX (ht.nob c5)
 ·rintro r w5 ⟨tb,tc,rfl,c5,ht⟩
  rw [Qbt] at rL rX
  have:=c3.size
  exact ⟨_,_,_,_,rfl,fin _ _ _ _ _ ((c3.trans c4).trans c5) (by omega) (by omega) ((c4.trans c5).row (fun h=>h) rL) (c5.row (fun h=>h) rX) ht⟩
 ·rintro r w3 ⟨tb,tc,rfl,c3,ht⟩
  have:=c3.size
  refine ⟨_,_,_,_,rfl,⟨i0,ie,by omega,Qa2 fun L w4 hL c4 rL=>⟨i0,ie,by omega,Qa2 fun X w5 hX c5 rX=>?_⟩⟩,i0,ie,by omega,Qa2 fun X w4 hX c4 rX=>⟨i0,ie,by omega,Qa2 fun L w5 hL c5 rL=>?_⟩⟩
  ·rw [Qbt] at rL rX
   have:=c4.size
   exact fin _ _ _ _ _ ((c3.trans c4).trans c5) (by omega) (by omega) (c5.row (fun h=>h) rL) rX (ht.nob (c4.trans c5))
  ·rw [Qbt] at rL rX
   have:=c4.size
   exact fin _ _ _ _ _ ((c3.trans c4).trans c5) (by omega) (by omega) rL (c5.row (fun h=>h) rX) (ht.nob (c4.trans c5))
 ·rintro r w5 ⟨tb,tc,rfl,c5,ht⟩
  rw [Qbt] at rL rX
  have:=c3.size
  exact ⟨_,_,_,_,rfl,fin _ _ _ _ _ ((c3.trans c4).trans c5) (by omega) (by omega) (c5.row (fun h=>h) rL) ((c4.trans c5).row (fun h=>h) rX) ht⟩
 ·rintro r w4 ⟨tb,tc,rfl,c4,ht⟩
  rw [Qbt] at rX
  refine ⟨_,_,_,_,rfl,i0,ie,by omega,Qa2 fun L w5 hL c5 rL=>?_⟩
  rw [Qbt] at rL
  have:=c3.size
  have:=c4.size
  exact fin _ _ _ _ _ ((c3.trans c4).trans c5) (by omega) (by omega) rL ((c4.trans c5).row (fun h=>h) rX) (ht.nob c5)
end
end Core
end Go.Proofs.YtpmicakdjhoafaaGreatDoor
