/-
The reference of layer 10: lists of darts for each vertex; darts found, put, taken out.
Conditions: those that each theorem states.
-/
import Derived.Test.YtfeekmmfdkfgmaaGreatDoorGCoreC
import Derived.Test.YtfeekmmfdkfgmaaGreatDoorGMem
import Derived.Test.YtfeekmmfdkfgmaaGreatDoorHsh
set_option linter.unusedVariables false
set_option linter.unusedSimpArgs false
namespace Go.Proofs.YtfeekmmfdkfgmaaGreatDoor
open Go Go.RowKit
theorem Zfp {A:Nat} {ty:TypeId}:∀(vs cs pre:List Value) (w:World) (K:World→Prop),Row w.heap A ty (pre++cs)→vs.length=cs.length→(∀v∈vs,oneC v=true)→(∀w',Chg (·=A) w w'→Row w'.heap A ty (pre++vs)→K w')→sts ⟨A,0,none⟩ pre.length vs w K
 | [],cs,pre,w,K,r,hl,_,k=>by
  obtain rfl:cs=[]:=List.length_eq_zero_iff.1 hl.symm
  unfold sts;exact k w (Chg.refl _ _) r
 | v::vs,[],pre,w,K,r,hl,_,k=>by cases hl
 | v::vs,c::cs,pre,w,K,r,hl,h1,k=>by
  have go:sto ⟨A,pre.length,none⟩ v w fun w'=>sts ⟨A,0,none⟩ (pre.length+1) vs w' K:=by
   refine Qao r (by simp) (h1 v (by simp)) fun w1 c1 r1=>?_
   have e1:(pre++c::cs).set pre.length v=(pre++[v])++cs:=by
    rw [List.set_append_right _ _ (Nat.le_refl _)];simp
   rw [e1] at r1
   have:=Zfp vs cs (pre++[v]) w1 K r1 (by simpa using hl) (fun u hu=>h1 u (List.mem_cons_of_mem _ hu)) fun w2 c2 r2=>k w2 (c1.trans c2) (by simpa using r2)
   rwa [List.length_append] at this
  cases pre with
  | nil=>exact go
  | cons p pre=>
   show sto (Addr.add ⟨A,0,none⟩ (pre.length+1)) v w fun w'=>sts ⟨A,0,none⟩ (pre.length+2) vs w' K
   rw [Qad,Nat.zero_add];exact go
theorem Qd3 {A:Nat} {ty:TypeId} {vs cs:List Value} {w:World} {K:World→Prop} (r:Row w.heap A ty cs) (hl:vs.length=cs.length) (h1:∀v∈vs,oneC v=true) (k:∀w',Chg (·=A) w w'→Row w'.heap A ty vs→K w'):sts ⟨A,0,none⟩ 0 vs w K:=
 Zfp vs cs [] w K r hl h1 k
theorem Zgo {A:Nat} {ty:TypeId}:∀(vs pre:List Value) (w:World) (K:Prop),Row w.heap A ty (pre++vs)→K→kps w ⟨A,0,none⟩ pre.length vs K
 | [],pre,w,K,r,k=>by unfold kps;exact k
 | v::vs,pre,w,K,r,k=>by
  have h0:w.cell? ⟨A,pre.length,none⟩=some v:=by rw [r.cell];simp
  have h1:=Zgo vs (pre++[v]) w K (by simpa using r) k
  rw [List.length_append] at h1
  cases pre with
  | nil=>exact ⟨h0,h1⟩
  | cons p pre=>
   show w.cell? (Addr.add ⟨A,0,none⟩ (pre.length+1))=some v∧kps w ⟨A,0,none⟩ (pre.length+2) vs K
   rw [Qad,Nat.zero_add];exact ⟨h0,h1⟩
theorem Qxq {A:Nat} {ty:TypeId} {vs:List Value} {w:World} {K:Prop} (r:Row w.heap A ty vs) (k:K):kps w ⟨A,0,none⟩ 0 vs K:=Zgo vs [] w K r k
namespace Core
set_option linter.ambiguousOpen false
open Seq Cut Web
theorem Qdw {A:Nat} {ty:TypeId} {n:Int} {b:Option Addr} {l c:Nat} {w:World} {K:Int→Option Addr→Nat→Nat→Prop} (r:Row w.heap A ty [.int .i64 n,.slice b l c]) (k:K n b l c):Qcd ⟨A,0,none⟩ w K:=
 Qaf r rfl (Qai r rfl k)
theorem Qzi:ET Pg 38 58 1 24:=ET.of (by kernel_rfl) (by kernel_rfl)
def Okb (bad:Nat→Prop) (l:Nat) (b:Option Addr):Prop:=∀g,0<l→bk b=some g→¬bad g
def LA (w:World) (bad:Nat→Prop) (v:Value) (A:List Nat):Prop:=∃b c,v=.slice b A.length c∧VA w b A.length 1 (ivs A)∧Okb bad A.length b∧A.length≤c
def TF (w:World) (bad:Nat→Prop) (b:Option Addr) (N:Nat) (tl:Nat→List Nat):Prop:=∃V:Nat→Value,VA w b N 1 (recs (fun i=>[V i]) N)∧Okb bad N b∧∀i,i<N→LA w bad (V i) (tl i)
section
variable {w w':World} {bad:Nat→Prop} {b sb:Option Addr} {l c sc N v d e j:Nat} {E x be:Int} {A:List Nat} {V:Value} {tl:Nat→List Nat} {S:Nat→Prop}
theorem Q1p:(ivs A).length=A.length:=List.length_map ..
theorem Zbl (h:A[j]?=some d):(ivs A)[j]?=some (.int .i64 d):=by unfold ivs;rw [List.getElem?_map,h];rfl
theorem Qwj:∀u∈ivs A,oneC u=true:=by intro u hu;obtain ⟨x,_,rfl⟩:=List.mem_map.1 hu;rfl
theorem LA.keep (h:LA w bad V A) (k:Chg S w w') (hS:∀i,S i→bad i):LA w' bad V A:=by
 obtain ⟨b,c,rfl,h1,h2,h3⟩:=h
 exact ⟨b,c,rfl,h1.keep k fun g hl hg hs=>h2 g hl hg (hS g hs),h2,h3⟩
theorem TF.keep (h:TF w bad b N tl) (k:Chg S w w') (hS:∀i,S i→bad i):TF w' bad b N tl:=by
 obtain ⟨V,h1,h2,h3⟩:=h
 exact ⟨V,h1.keep k fun g hl hg hs=>h2 g hl hg (hS g hs),h2,fun i hi=>(h3 i hi).keep k hS⟩
theorem TF.nob (h:TF w bad b N tl) (k:Chg Qaa w w'):TF w' bad b N tl:=h.keep k fun _ h=>h.elim
theorem LA.nob (h:LA w bad V A) (k:Chg Qaa w w'):LA w' bad V A:=h.keep k fun _ h=>h.elim
theorem Ze8 {V:Nat→Value} (x:Nat):([V x]:List Value).length=1:=rfl
theorem Ze9 {V:Nat→Value} (h:v<N):(recs (fun i=>[V i]) N)[v]?=some (V v):=by
 have:=Qdb (k:=0) (fun i=>[V i]) Ze8 h (by omega)
 rwa [Nat.mul_one,Nat.add_zero] at this
theorem LA.weak {bad':Nat→Prop} (h:LA w bad V A) (k:∀i,bad' i→bad i):LA w bad' V A:=by
 obtain ⟨b,c,rfl,h1,h2,h3⟩:=h
 exact ⟨b,c,rfl,h1,fun g hl hg hb=>h2 g hl hg (k g hb),h3⟩
theorem TF.weak {bad':Nat→Prop} (h:TF w bad b N tl) (k:∀i,bad' i→bad i):TF w bad' b N tl:=by
 obtain ⟨V,h1,h2,h3⟩:=h
 exact ⟨V,h1,fun g hl hg hb=>h2 g hl hg (k g hb),fun i hi=>(h3 i hi).weak k⟩
theorem LA.old {n:Nat} (h:LA w bad V A):LA w (fun k=>bad k∨(w.heap.size≤k∧k<n)) V A:=by
 obtain ⟨b,c,rfl,h1,h2,h3⟩:=h
 refine ⟨b,c,rfl,h1,fun g hl hg hb=>?_,h3⟩
 obtain ⟨g2,e2,hlt⟩:=h1.blk hl
 rw [e2] at hg
 cases hg
 exact hb.elim (h2 _ hl e2) fun k=>by omega
theorem TF.old {n:Nat} (h:TF w bad b N tl):TF w (fun k=>bad k∨(w.heap.size≤k∧k<n)) b N tl:=by
 obtain ⟨V,h1,h2,h3⟩:=h
 refine ⟨V,h1,fun g hl hg hb=>?_,fun i hi=>(h3 i hi).old⟩
 obtain ⟨g2,e2,hlt⟩:=h1.blk hl
 rw [e2] at hg
 cases hg
 exact hb.elim (h2 _ hl e2) fun k=>by omega
theorem TF.rd (h:TF w bad b N tl) (hv:v<N) {K:Option Addr→Nat→Nat→Prop} (k:∀eb ec,VA w eb (tl v).length 1 (ivs (tl v))→Okb bad (tl v).length eb→(tl v).length≤ec→K eb (tl v).length ec):ixS b N (v:Int) 1 fun a=>ldS a w K:=by
 obtain ⟨V,h1,h2,h3⟩:=h
 obtain ⟨eb,ec,e1,k1,k2,k3⟩:=h3 v hv
 refine h1.ix hv fun g o e cs r _ hc=>?_
 refine Qai (x:=eb) (l:=(tl v).length) (c:=ec) r ?_ (k eb ec k1 k2 k3)
 have:=hc 0 (by omega)
 rwa [Nat.mul_one,Nat.add_zero,Nat.add_zero,Ze9 hv,e1] at this
theorem rdI (h:VA w b A.length 1 (ivs A)) (hd:A[j]?=some d) {K:Int→Prop} (k:K d):ixS b A.length (j:Int) 1 fun a=>ldI .i64 a w K:=by
 have hj:j<A.length:=(List.getElem?_eq_some_iff.1 hd).1
 refine h.ix hj fun g o e cs r _ hc=>Qaf (n:=(d:Int)) r ?_ k
 have:=hc 0 (by omega)
 rwa [Nat.mul_one,Nat.add_zero,Nat.add_zero,Zbl hd] at this
def FD (tl:Nat→List Nat) (N:Nat) (x z i:Int):Prop:=(∃v j d:Nat,z=v∧i=j∧v<N∧(tl v)[j]?=some d∧(d:Int)=x)∨(z=-1∧i=-1∧∀v,v<N→∀d∈tl v,(d:Int)≠x)
theorem FD.on {z i:Int} (nd:ND N tl) (h:FD tl N (d:Nat) z i) (hd:d∈dl tl N):∃j:Nat,z=(og tl N d:Nat)∧i=j∧(tl (og tl N d))[j]?=some d:=by
 rcases h with ⟨v,j,d',rfl,rfl,hv,h1,h2⟩ | ⟨_,_,h⟩
 ·obtain rfl:d'=d:=by omega
  have:og tl N d'=v:=nd.ogE hv (List.mem_of_getElem? h1)
  rw [this];exact ⟨j,rfl,rfl,h1⟩
 ·obtain ⟨v,hv,h1⟩:=Qa2.1 hd
  exact absurd rfl (h v hv d h1)
theorem FD.off {z i:Int} (h:FD tl N x z i) (hd:∀d∈dl tl N,(d:Int)≠x):z=-1∧i=-1:=by
 rcases h with ⟨v,j,d',rfl,rfl,hv,h1,h2⟩ | ⟨h1,h2,_⟩
 ·exact absurd h2 (hd d' (Qa2.2 ⟨v,hv,List.mem_of_getElem? h1⟩))
 ·exact ⟨h1,h2⟩
theorem Qzl (nd:ND N tl) (hv:v<N):(tl v).length≤2*N:=Qbh (nd.nodup hv) fun x hx=>nd.lt x (Qa2.2 ⟨v,hv,hx⟩)
structure Sz (N n m:Nat) (tl:Nat→List Nat):Prop where
 vn:n≤N
 em:m≤N
 b:∀v,n≤v→v<N→tl v=[]
 e:∀d,d∈dl tl N→d<2*m
 nN:N≤1048576
theorem Sz.ogn {n m d:Nat} (z:Sz N n m tl) (hd:d∈dl tl N):og tl N d<n:=by
 obtain ⟨h1,h2⟩:=Qbm hd
 rcases Nat.lt_or_ge (og tl N d) n with k | k
 ·exact k
 ·rw [z.b _ k h1] at h2;cases h2
theorem Qxi {n m:Nat} (h:TF w bad b n tl) (nd:ND N tl) (z:Sz N n m tl):Calls Pg 68 #[.agg #[.int .i64 E,.slice b n c],.int .i64 x] w fun r w'=>∃y i,r=.returned (.tuple #[.int .i64 y,.int .i64 i])∧Chg Qaa w w'∧FD tl N x y i:=by
 refine (Qtv _ _ _ _ _).go ?_
 unfold Qnb nr
 have zn:=z.vn
 have zN:=z.nN
 refine Qak fun A w1 _ c1 r1=>?_
 have h1:=h.nob c1
 let J:Nat→List Value→World→Prop:=fun j vs w'=>∃i:Nat,vs=[.int .i64 i]∧i≤n∧w'=w1∧(∀v,v<i→∀d∈tl v,(d:Int)≠x)∧j=n-i
 refine ⟨LI J,LM J,⟨_,0,rfl,by omega,rfl,fun v hv=>by omega,rfl⟩,?_⟩
 intro _ i w2 hJ
 obtain ⟨i,hvs,hi,rfl,hno,hj⟩:=hJ.at
 simp only [vj] at hvs
 subst hvs
 rw [Qad]
 refine Qai r1 rfl (Qac (fun hc=>?_) (fun hc=>?_))<;>simp only [b1s] at hc
 ·have hiN:i<n:=by omega
  have hlen:=Qzl nd (Nat.lt_of_lt_of_le hiN zn)
  let J2:Nat→List Value→World→Prop:=fun j vs w'=>∃k:Nat,vs=[.int .i64 k]∧k≤(tl i).length∧w'=w2∧(∀d∈(tl i).take k,(d:Int)≠x)∧j=(tl i).length-k
  refine ⟨LI J2,LM J2,⟨_,0,rfl,by omega,rfl,by simp,rfl⟩,?_⟩
  intro _ k w3 hJ2
  obtain ⟨k,hvs,hk,rfl,hno2,hj2⟩:=hJ2.at
  simp only [vj] at hvs
  subst hvs
  refine Qai r1 rfl (h1.rd hiN fun eb ec k1 k2 k3=>Qac (fun hc2=>?_) (fun hc2=>?_))<;>simp only [b1s] at hc2
  ·have hk':k<(tl i).length:=by omega
   refine Qai r1 rfl (h1.rd hiN fun eb ec k1 k2 k3=>?_)
   obtain ⟨d,hd⟩:∃d,(tl i)[k]?=some d:=⟨_,List.getElem?_eq_getElem hk'⟩
   refine rdI k1 hd (Qac (fun hc3=>?_) (fun hc3=>?_))<;>simp only [b1s] at hc3
   ·exact ⟨_,_,rfl,c1,.inl ⟨i,k,d,rfl,rfl,Nat.lt_of_lt_of_le hiN zn,hd,hc3⟩⟩
   ·rw [wrap64_in (by omega) (by omega)]
    refine LI.again (k:=(tl i).length-(k+1)) ⟨k+1,rfl,by omega,rfl,fun y hy=>?_,rfl⟩ (by rw [hj2];omega)
    rw [List.take_add_one,hd,List.mem_append] at hy
    rcases hy with hy | hy
    ·exact hno2 y hy
    ·simp at hy;rw [hy];exact hc3
  ·rw [wrap64_in (by omega) (by omega)]
   refine LI.again (k:=n-(i+1)) ⟨i+1,rfl,by omega,rfl,fun v hv=>?_,rfl⟩ (by rw [hj];omega)
   by_cases hvi:v=i
   ·subst hvi;rw [List.take_of_length_le (by omega)] at hno2;exact hno2
   ·exact hno v (by omega)
 ·refine ⟨_,_,rfl,c1,.inr ⟨rfl,rfl,fun v hv d hd=>?_⟩⟩
  rcases Nat.lt_or_ge v n with k | k
  ·exact hno v (by omega) d hd
  ·rw [z.b v k hv] at hd;cases hd
theorem Zaj (h:TF w bad b N tl) (hv:v<N) (hN:N≤1048576) (hl:LA w bad V A) (hbad:∀k,bad k→k<w.heap.size):Calls Pg 69 #[.agg #[.int .i64 E,.slice b N c],.int .i64 v,V] w fun r w'=>∃b' c',r=.returned (.agg #[.int .i64 E,.slice b' N c'])∧Chg Qaa w w'∧TF w' bad b' N (upd tl v A):=by
 obtain ⟨lb,lc,rfl,l1,l2,l3⟩:=hl
 refine (Qts _ _ _ _ _ _ _ _).go ?_
 unfold Qm8 nr
 refine Qak fun A1 w1 _ c1 r1=>Qak fun A2 w2 hA2 c2 r2=>?_
 have c3:=c1.trans c2
 have r12:=c2.row (fun h=>h) r1
 have hA12:A1≠A2:=by have:=r1.lt;omega
 obtain ⟨V,k1,k2,k3⟩:=h
 have hone:∀u∈recs (fun i=>[V i]) N,oneC u=true:=by
  intro u hu
  obtain ⟨i,hi,hu⟩:=List.mem_flatMap.1 hu
  obtain ⟨eb,ec,e1,_⟩:=k3 i (List.mem_range.1 hi)
  simp at hu;rw [hu,e1];rfl
 rw [Qad]
 obtain ⟨b',c',w4,hr,ho,c4⟩:=Qdm (sc:=c) Qzi (ty:=38) (k1.nob c3) hone (by omega) (by omega)
 refine Qai r12 rfl ⟨b',N,c',w4,hr,?_⟩
 obtain ⟨g,cs,rfl,hg,rg,ht,_,hcs⟩:=ho.get (by omega)
 have r14:=c4.row (fun h=>h) r12
 have r24:=c4.row (fun h=>h) r2
 have l4:=r1.lt
 have l5:=r2.lt
 have s1:=c1.size
 have s3:=c3.size
 have s2:=c2.size
 refine Qat hv ?_
 rw [Nat.zero_add,Nat.mul_one]
 have hcl:N≤cs.length:=by
  have:=congrArg List.length ht
  rw [List.length_take,Qah _ Ze8] at this
  omega
 refine Qao rg (by omega) rfl fun w5 c5 rg5=>?_
 have r15:=c5.row (by omega) r14
 have r25:=c5.row (by omega) r24
 refine Qaf (n:=E) r15 rfl (Qd3 r25 rfl (by simp [oneC]) fun w6 c6 r26=>Qdw r26 ⟨_,_,rfl,?_,?_⟩)
 all_goals have ck:Chg (fun k=>k=g∨k=A2) w4 w6:=(c5.mono (T:=fun k=>k=g∨k=A2) fun _ _ e=>.inl e).trans (c6.mono fun _ _ e=>.inr e)
 ·exact (c3.trans c4).trans' ck fun k e=>.inr (by omega)
 ·have rg7:=c6.row (by omega) rg5
  have keep:∀{eb:Option Addr} {n:Nat} {xs:List Value},VA w eb n 1 xs→VA w6 eb n 1 xs:=fun hv=>(hv.nob (c3.trans c4)).keep ck fun g' hl hg' e=>by
   obtain ⟨g2,e2,hlt⟩:=hv.blk hl
   rw [e2] at hg'
   cases hg'
   omega
  refine ⟨upd V v (.slice lb A.length lc),⟨by rw [Qah _ Ze8],.inr ⟨g,0,_,_,rfl,rg7,?_⟩⟩,fun g' _ e=>?_,fun i hi=>?_⟩
  ·rw [List.drop_zero,List.take_set,ht]
   have:=Qca (k:=0) (fun i=>[V i]) Ze8 (g:=fun i=>[upd V v (.slice lb A.length lc) i]) (v:=.slice lb A.length lc) hv (by omega) (fun j hj=>by rw [Qag _ _ hj]) (by rw [Qab];rfl)
   rwa [Nat.mul_one,Nat.add_zero] at this
  ·cases e
   intro hb
   have:=hbad g hb
   omega
  ·by_cases hiv:i=v
   ·subst hiv;rw [Qab,Qab];exact ⟨lb,lc,rfl,keep l1,l2,l3⟩
   ·rw [Qag _ _ hiv,Qag _ _ hiv]
    obtain ⟨eb,ec,e1,m1,m2,m3⟩:=k3 i hi
    exact ⟨eb,ec,e1,keep m1,m2,m3⟩
theorem Q55 {k:Nat} (h:VA w b A.length 1 (ivs A)) (hk:k≤A.length) (hc:A.length≤c):VA w (if c=k then b else Option.map (fun a=>Addr.add a (k*1)) b) (A.length-k) 1 (ivs (A.drop k)):=by
 by_cases h0:A.length-k=0
 ·rw [List.drop_eq_nil_iff.2 (by omega),h0];exact VA.zero
 ·rw [if_neg (by omega)]
  have:=h.post hk
  unfold ivs at *
  rw [List.map_drop]
  rwa [Nat.mul_one] at this ⊢
end
end Core
end Go.Proofs.YtfeekmmfdkfgmaaGreatDoor
namespace Go.Proofs.YtfeekmmfdkfgmaaGreatDoor
open Go Go.RowKit
namespace Core
set_option linter.ambiguousOpen false
open Seq Cut Web
section
variable {w w':World} {bad:Nat→Prop} {b sb:Option Addr} {l c sc N v d e j u:Nat} {E x be ce:Int} {A:List Nat} {V:Value} {tl:Nat→List Nat} {S:Nat→Prop}
theorem Zk2 {n:Nat} {m:Int} (h2:n≤1048576) (hbad:∀k,bad k→k<w.heap.size):Calls Pg 67 #[.int .i64 n,.int .i64 m] w fun r w'=>∃b c,r=.returned (.agg #[.int .i64 m,.slice b n c])∧Chg Qaa w w'∧TF w' bad b n (fun _=>[]):=by
 refine (Qu9 _ _).go ?_
 unfold Qpt nr
 refine Qak fun A w1 hA c1 r1=>⟨by omega,Int.le_refl _,by omega,Qak fun A2 w2 hA2 c2 r2=>?_⟩
 have s1:=c1.size
 have l1:=r1.lt
 rw [Int.toNat_natCast,Qas] at *
 refine Qd3 (c2.row (fun h=>h) r1) rfl (by simp [oneC]) fun w3 c3 r3=>Qdw r3 ⟨_,_,rfl,(c1.trans c2).trans' c3 fun k e=>.inr (by omega),fun _=>.slice none 0 0,?_,fun g _ e hb=>?_,fun i _=>⟨none,0,rfl,VA.zero,fun g hl=>by (simp at hl),by simp⟩⟩
 ·exact VA.Qgm (c3.row (by omega) r2) (by rw [Qah _ (sz:=1) (fun _=>rfl)])
 ·obtain rfl:A2=g:=Option.some.inj e
  have:=hbad _ hb
  omega
theorem Q3k {a m:Nat}:Int.tmod (a:Int) (m:Int)=((a % m:Nat):Int):=rfl
theorem Zak {n m:Nat} (h:TF w bad b n tl) (nd:ND N tl) (z:Sz N n m tl) (hd:d∈dl tl N):Calls Pg 84 #[.agg #[.int .i64 E,.slice b n c],.int .i64 d,.int .i64 1] w fun r w'=>r=.returned (.int .i64 (sg tl N d:Nat))∧Chg Qaa w w':=by
 refine (Qtt _ _ _ _ _ _).go ?_
 unfold Qm9 nr
 refine Qak fun A1 w1 hA1 c1 r1=>Qaf (n:=E) r1 rfl ?_
 rw [Qad]
 refine Qai r1 rfl ((Qxi (h.nob c1) nd z).mono ?_)
 rintro r w2 ⟨y,i,rfl,c2,fd⟩
 obtain ⟨i,rfl,rfl,hgi⟩:=fd.on nd hd
 obtain ⟨hv,hdv⟩:=Qbm hd
 have zn:=z.ogn hd
 have zN:=z.nN
 have hlen:=Qzl nd hv
 have hil:=(List.getElem?_eq_some_iff.1 hgi).1
 have r2:=c2.row (fun h=>h) r1
 have h2:=(h.nob c1).nob c2
 refine ⟨_,_,rfl,Qai r2 rfl (h2.rd zn fun eb ec k1 k2 k3=>?_)⟩
 have c3:=(c1.trans c2).trans ((Chg.refl Qaa w2).drew)
 have r3:Row w2.drew.heap _ _ _:=r2
 have h3:=h.nob c3
 generalize w2.drew=w3 at *
 refine Qai r3 rfl (h3.rd zn fun eb ec k1 k2 k3=>⟨by omega,?_⟩)
 rw [wrap64_in (x:=(i:Int)+1) (by omega) (by omega),wrap64_in (by omega) (by omega),show (i:Int)+1+((tl (og tl N d)).length:Nat)=((i+1+(tl (og tl N d)).length:Nat):Int) by omega,Q3k,Nat.add_mod_right]
 have hm:(i+1) % (tl (og tl N d)).length<(tl (og tl N d)).length:=Nat.mod_lt _ (by omega)
 refine rdI k1 (List.getElem?_eq_getElem hm) ⟨?_,c3⟩
 rw [nd.sgE hv hdv,Q73 (nd.nodup hv) hgi,List.getD_eq_getElem?_getD,List.getElem?_eq_getElem hm];rfl
theorem Q37 {n m:Nat} (h:TF w bad b n tl) (nd:ND N tl) (z:Sz N n m tl):Calls Pg 70 #[.agg #[.int .i64 (m:Nat),.slice b n c]] w fun r w'=>∃V,r=.returned V∧Chg Qaa w w'∧LA w' (fun k=>k<w.heap.size) V ((List.range (2*m)).filter fun d=>decide (d∈dl tl N)):=by
 refine (Qr3 _ _ _ _ _ (fun v' w'=>Chg Qaa w w'∧LA w' (fun k=>k<w.heap.size) v' ((List.range (2*m)).filter fun d=>decide (d∈dl tl N))) ?_).mono (by rintro e w' ⟨v,rfl,k⟩;exact ⟨v,rfl,k⟩)
 unfold Qlo nr
 have zn:=z.vn
 have zm:=z.em
 have zN:=z.nN
 refine Qak fun A1 w1 hA1 c1 r1=>?_
 have s1:=c1.size
 let J:Nat→List Value→World→Prop:=fun j vs w'=>∃i:Nat,∃b' l' c',vs=[.slice b' l' c',.int .i64 i]∧i≤2*m∧Chg Qaa w1 w'∧Own w' w1.heap.size 3 1 b' l' c' (ivs ((List.range i).filter fun d=>decide (d∈dl tl N)))∧j=2*m-i
 refine ⟨LI J,LM J,⟨_,0,none,0,0,rfl,by omega,Chg.refl _ _,Own.nil,rfl⟩,?_⟩
 intro _ sb sl sc i w2 hJ
 obtain ⟨i,b',l',c',hvs,hi,ck,ow,hj⟩:=hJ.at
 simp only [vk] at hvs
 obtain ⟨⟨rfl,rfl,rfl⟩,rfl⟩:=hvs
 have r2:=ck.row (fun h=>h) r1
 have s2:=ck.size
 have hl':sl≤i:=by
  have:=ow.len
  rw [Q1p,Nat.mul_one] at this
  rw [←this]
  have:=List.length_filter_le (fun d=>decide (d∈dl tl N)) (List.range i)
  rwa [List.length_range] at this
 refine Qaf (n:=(m:Int)) r2 rfl ?_
 rw [wrap64_in (x:=2*(m:Int)) (by omega) (by omega)]
 refine Qac (fun hc=>?_) (fun hc=>?_)<;>simp only [b1s] at hc
 ·refine Qdw r2 ((Qxi ((h.nob c1).nob ck) nd z).mono ?_)
  rintro r w3 ⟨y,k,rfl,c3,fd⟩
  have s3:=c3.size
  refine ⟨_,_,rfl,Qac (fun hc2=>?_) (fun hc2=>?_)⟩<;>simp only [b1s] at hc2<;>rw [wrap64_in (by omega) (by omega)]
  ·have hm:i∈dl tl N:=Classical.byContradiction fun k=>by
    have := (fd.off fun d hd e => k (by have : d = i := by omega
                                        subst this;exact hd)).1
    omega
   refine Qak fun A2 w4 hA2 c4 r4=>?_
   have o4:=(ow.chg c3 fun _ _ _ h=>h).chg c4 fun _ _ _ h=>h
   have s4:=c4.size
   obtain ⟨b5,c5',w5,g5,o5,c5,_⟩:=Qb0 (sc:=1) Qdv o4 (ty:=58) (VA.Qgm (l:=1) (sz:=1) r4 rfl) (by simp [oneC]) (by omega) (by omega) (by omega) (by omega)
   refine ⟨_,_,_,_,g5,?_⟩
   refine LI.again (k:=2*m-(i+1)) ⟨i+1,_,_,_,rfl,by omega,((ck.trans c3).trans c4).trans' c5 fun i hi=>.inr (o4.Qar hi).1,?_,rfl⟩ (by rw [hj];omega)
   rw [List.range_succ,List.filter_append,List.filter_cons_of_pos (by simpa using hm)]
   simp only [List.filter_nil]
   have:ivs (List.filter (fun d=>decide (d∈dl tl N)) (List.range i)++[i])=ivs (List.filter (fun d=>decide (d∈dl tl N)) (List.range i))++[.int .i64 (i:Int)]:=by simp [ivs]
   rw [this];exact o5
  ·have hm:i∉dl tl N:=fun k=>by
    obtain ⟨j,e1,_⟩:=fd.on nd k
    omega
   refine LI.again (k:=2*m-(i+1)) ⟨i+1,_,_,_,rfl,by omega,ck.trans c3,?_,rfl⟩ (by rw [hj];omega)
   rw [List.range_succ,List.filter_append,List.filter_cons_of_neg (by simpa using hm),List.filter_nil,List.append_nil]
   exact ow.chg c3 fun _ _ _ h=>h
 ·have:i=2*m:=by omega
  subst this
  have hl:=ow.len
  rw [Q1p,Nat.mul_one] at hl
  subst hl
  exact ⟨c1.trans ck,sb,sc,rfl,VA.Qa6 ow,fun g _ hg k=>by have:=(ow.Qar hg).1;omega,ow.cap.1⟩
end
structure Orb (tl:Nat→List Nat) (N d:Nat) (L:List Nat):Prop where
 h:L.head?=some d
 n:L.Nodup
 m:∀x∈L,x∈dl tl N
 c:∀u v,Cy L u v→ph tl N u=v
section
variable {w w':World} {bad:Nat→Prop} {b sb:Option Addr} {l c sc N v d e j u x y:Nat} {E be ce:Int} {A L:List Nat} {V:Value} {tl:Nat→List Nat} {S:Nat→Prop} {q:List (List Nat)} {B D:Nat→Option (Nat × Nat)} {lim:Nat→Prop}
theorem Orb.pf (h:Orb tl N d L):y∈L↔PF tl N d y:=by
 have hd:d∈L:=List.mem_of_head? h.h
 constructor
 ·intro k
  exact RT.mono (fun u v k=>(h.c u v k).symm) (Q6v hd k)
 ·intro k
  induction k with
  | refl=>exact hd
  | step _ k ih=>
   subst k
   obtain ⟨z,hz⟩:=Q6w ih
   rw [h.c _ z hz];exact hz.mem.2
theorem Orb.len (h:Orb tl N d L) (nd:ND N tl):L.length≤2*N:=Qbh h.n fun x hx=>nd.lt x (h.m x hx)
theorem Q6g:∀{L:List Nat} {i:Nat},L[i]?=some x→L[i+1]?=some y→Web.Nx L x y
 | [],_,h,_=>by simp at h
 | a::L,0,h,k=>by simp at h k;left;exact ⟨h,by rw [List.head?_eq_getElem?];exact k⟩
 | a::L,i+1,h,k=>by simp at h k;right;exact Q6g h k
theorem Q7t {n m:Nat} (h:TF w bad b n tl) (hM:MP N tl) (z:Sz N n m tl) (hd:d∈dl tl N):Calls Pg 228 #[.agg #[.int .i64 E,.slice b n c],.int .i64 d] w fun r w'=>r=.returned (.int .i64 (ph tl N d:Nat))∧Chg Qaa w w':=by
 refine (Qtr _ _ _ _ _).go ?_
 unfold Qm7 nr
 have hlt:=hM.lt d hd
 have zN:=z.nN
 have htw:=hM.tw d hd
 rw [hM.phE hd]
 refine Qak fun A1 w1 hA1 c1 r1=>⟨by omega,?_⟩
 rw [show (2:Int)=((2:Nat):Int) from rfl,Q3k]
 refine Qac (fun k=>Qdw r1 ?_) (fun k=>Qdw r1 ?_)<;>simp only [b1s] at k<;>rw [wrap64_in (by omega) (by omega)]
 ·have e1:(d:Int)-1=(tw d:Nat):=by unfold tw;rw [if_neg (by omega)];omega
  rw [e1]
  refine (Zak (h.nob c1) hM.toND z htw).mono ?_
  rintro r w2 ⟨rfl,c2⟩
  exact ⟨_,rfl,rfl,c1.trans c2⟩
 ·have e1:(d:Int)+1=(tw d:Nat):=by unfold tw;rw [if_pos (by omega)];omega
  rw [e1]
  refine (Zak (h.nob c1) hM.toND z htw).mono ?_
  rintro r w2 ⟨rfl,c2⟩
  exact ⟨_,rfl,rfl,c1.trans c2⟩
theorem Zf4 {n m:Nat} (h:TF w bad b n tl) (hM:MP N tl) (z:Sz N n m tl) (ho:Orb tl N d L):Calls Pg 160 #[.agg #[.int .i64 (m:Nat),.slice b n c],.int .i64 d] w fun r w'=>∃V,r=.returned V∧Chg Qaa w w'∧LA w' (fun k=>k<w.heap.size) V L:=by
 refine (Qtq _ _ _ _ _ _ (fun v' w'=>Chg Qaa w w'∧LA w' (fun k=>k<w.heap.size) v' L) ?_).mono (by rintro e w' ⟨v,rfl,k⟩;exact ⟨v,rfl,k⟩)
 unfold Qm6 nr
 have zm:=z.em
 have zN:=z.nN
 have hlen:L.length≤2*m:=Qbh ho.n fun x hx=>z.e x (ho.m x hx)
 obtain ⟨R,rfl⟩:∃R,L=d::R:=by
  have:=ho.h
  cases L with
  | nil=>cases this
  | cons a R=>cases this;exact ⟨R,rfl⟩
 refine Qak fun A1 w1 hA1 c1 r1=>Qak fun A2 w2 hA2 c2 r2=>?_
 have cc:=c1.trans c2
 have q1:=c2.row (fun h=>h) r1
 have s1:=c1.size
 have s2:=c2.size
 let J:Nat→List Value→World→Prop:=fun j vs w'=>∃i:Nat,∃b' c',vs=[.slice b' (i+1) c',.int .i64 i]∧i<(d::R).length∧Chg (fun k=>w1.heap.size≤k) w2 w'∧Row w'.heap A1 65 [.int .i64 (m:Nat),.slice b n c]∧Own w' w1.heap.size 3 1 b' (i+1) c' (ivs ((d::R).take (i+1)))∧j=2*m-i
 have l1:=r1.lt
 have l2:=r2.lt
 refine ⟨LI J,LM J,⟨_,0,_,_,rfl,by simp,Chg.refl _ _,q1,?_,rfl⟩,?_⟩
 ·exact Q39 r2 (by omega)
 intro _ sb sl sc i w3 hJ
 obtain ⟨i,b',c',hvs,hi,ck,q3,ow,hj⟩:=hJ.at
 simp only [vk] at hvs
 obtain ⟨⟨rfl,rfl,rfl⟩,rfl⟩:=hvs
 have s3:=ck.size
 have ckw:Chg Qaa w w3:=cc.trans' ck fun k e=>.inr (by omega)
 have hlt:(d::R).length≤2*m:=hlen
 refine Qaf (n:=(m:Int)) q3 rfl ?_
 rw [wrap64_in (x:=2*(m:Int)) (by omega) (by omega)]
 refine Qac (fun hc=>?_) (fun hc=>?_)<;>simp only [b1s] at hc
 ·have c4:Chg Qaa w3 w3.drew:=(Chg.refl _ _).drew
  have q4:=c4.row (fun h=>h) q3
  have o4:=ow.chg c4 fun _ _ _ h=>h
  have h4:=(h.nob ckw).nob c4
  generalize w3.drew=w4 at *
  have s4:=c4.size
  refine Qdw q4 ?_
  rw [wrap64_in (by omega) (by omega),show ((i+1:Nat):Int)-1=(i:Nat) by omega]
  obtain ⟨x,hx⟩:∃x,(d::R)[i]?=some x:=⟨_,List.getElem?_eq_getElem hi⟩
  have hlt1:((d::R).take (i+1)).length=i+1:=by rw [List.length_take];omega
  have hv4:VA w4 sb ((d::R).take (i+1)).length 1 (ivs ((d::R).take (i+1))):=by rw [hlt1];exact VA.Qa6 o4
  rw [←hlt1]
  refine rdI hv4 (d:=x) (by rw [List.getElem?_take,if_pos (by omega)];exact hx) ((Q7t h4 hM z (ho.m x (List.mem_of_getElem? hx))).mono ?_)
  rw [hlt1]
  rintro r w5 ⟨rfl,c5⟩
  have s5:=c5.size
  refine ⟨_,rfl,Qac (fun hc2=>?_) (fun hc2=>?_)⟩<;>simp only [b1s] at hc2
  ·
   have hfull:i+1=(d::R).length:=by
    rcases Nat.lt_or_ge (i+1) (d::R).length with k | k
    ·obtain ⟨y,hy⟩:∃y,(d::R)[i+1]?=some y:=⟨_,List.getElem?_eq_getElem k⟩
     have e1:=ho.c x y (.inl (Q6g hx hy))
     have:y=d:=by omega
     subst this
     have h0:(y::R)[0]?=some y:=rfl
     have:=(List.getElem?_inj k ho.n).1 (hy.trans h0.symm)
     omega
    ·omega
   have o5:=o4.chg c5 fun _ _ _ h=>h
   rw [List.take_of_length_le (by omega),hfull] at o5
   rw [hfull]
   exact ⟨(ckw.trans c4).trans c5,_,_,rfl,VA.Qa6 o5,fun g _ hg k=>by have:=(o5.Qar hg).1;omega,o5.cap.1⟩
  ·have hmore:i+1<(d::R).length:=by
    rcases Nat.lt_or_ge (i+1) (d::R).length with k | k
    ·exact k
    ·refine absurd ?_ hc2
     have hl:(d::R).getLast?=some x:=by
      rw [List.getLast?_eq_getElem?,show (d::R).length-1=i by omega];exact hx
     rw [ho.c x d (.inr ⟨hl,rfl⟩)]
   obtain ⟨y,hy⟩:∃y,(d::R)[i+1]?=some y:=⟨_,List.getElem?_eq_getElem hmore⟩
   have e1:=ho.c x y (.inl (Q6g hx hy))
   rw [e1,wrap64_in (by omega) (by omega)]
   refine Qak fun A3 w6 hA3 c6 r6=>?_
   have o6:=(o4.chg c5 fun _ _ _ h=>h).chg c6 fun _ _ _ h=>h
   have s6:=c6.size
   obtain ⟨b7,c7',w7,g7,o7,c7,_⟩:=Qb0 (sc:=1) Qdv o6 (ty:=58) (VA.Qgm (l:=1) (sz:=1) r6 rfl) (by simp [oneC]) (by omega) (by omega) (by omega) (by omega)
   refine ⟨_,_,_,_,g7,LI.again (k:=2*m-(i+1)) ⟨i+1,_,_,rfl,hmore,?_,?_,?_,rfl⟩ (by rw [hj];omega)⟩
   ·exact ((ck.trans ((c4.trans c5).trans c6).weak)).trans (c7.mono fun k _ e=>(o6.Qar e).1)
   ·exact c7.row (fun e=>by have:=(o6.Qar e).1;omega) ((c5.trans c6).row (fun h=>h) q4)
   ·have:ivs ((d::R).take (i+1+1))=ivs ((d::R).take (i+1))++[.int .i64 (y:Int)]:=by
     rw [List.take_add_one,hy];simp [ivs]
    rw [this];exact o7
 ·omega
theorem Zk6 (hM:MP N tl) (hx:x∈dl tl N) (k:PF tl N x y):y∈dl tl N:=by
 induction k with
 | refl=>exact hx
 | step _ k ih=>subst k;exact hM.Qzy ih
theorem Zh9 {n:Nat} (hn:n≤1048576):Calls Pg 154 #[.int .i64 n] w fun r w'=>∃V,r=.returned V∧Chg Qaa w w'∧LA w' (fun k=>k<w.heap.size) V (List.range n):=by
 refine (Qva _ _ (fun v' w'=>Chg Qaa w w'∧LA w' (fun k=>k<w.heap.size) v' (List.range n)) ?_).mono (by rintro e w' ⟨v,rfl,k⟩;exact ⟨v,rfl,k⟩)
 unfold Qpu nr
 refine Qak fun A1 w1 hA1 c1 r1=>?_
 have s1:=c1.size
 let J:Nat→List Value→World→Prop:=fun j vs w'=>∃i:Nat,∃b' c',vs=[.slice b' i c',.int .i64 i]∧i≤n∧Chg (fun k=>w.heap.size≤k) w1 w'∧Own w' w.heap.size 3 1 b' i c' (ivs (List.range i))∧j=n-i
 refine ⟨LI J,LM J,⟨_,0,_,_,rfl,by omega,Chg.refl _ _,⟨rfl,.inr ⟨A1,0,#[],rfl,hA1,r1,by decide,by decide,rfl,rfl⟩⟩,rfl⟩,?_⟩
 intro _ sb i sc ii w2 hJ
 obtain ⟨i',b',c',hvs,hi,ck,ow,hj⟩:=hJ.at
 simp only [vk] at hvs
 obtain ⟨⟨rfl,rfl,rfl⟩,rfl⟩:=hvs
 have s2:=ck.size
 refine Qac (fun hc=>?_) (fun hc=>?_)<;>simp only [b1s] at hc
 ·refine Qak fun A2 w3 hA2 c3 r3=>?_
  have o3:=ow.chg c3 fun _ _ _ h=>h
  have s3:=c3.size
  obtain ⟨b4,c4',w4,g4,o4,c4,_⟩:=Qb0 (sc:=1) Qdv o3 (ty:=58) (VA.Qgm (l:=1) (sz:=1) r3 rfl) (by simp [oneC]) (by omega) (by omega) (by omega) (by omega)
  rw [wrap64_in (by omega) (by omega)]
  refine ⟨_,_,_,_,g4,LI.again (k:=n-(i+1)) ⟨i+1,_,_,rfl,by omega,(ck.trans c3.weak).trans (c4.mono fun k _ e=>(o3.Qar e).1),?_,rfl⟩ (by rw [hj];omega)⟩
  have:ivs (List.range (i+1))=ivs (List.range i)++[.int .i64 (i:Int)]:=by rw [List.range_succ];simp [ivs]
  rw [this];exact o4
 ·obtain rfl:i=n:=by omega
  have e1:(List.range i).length=i:=List.length_range
  refine ⟨c1.trans' ck fun k e=>.inr e,sb,sc,by rw [e1],by rw [e1];exact VA.Qa6 ow,fun g _ hg k=>by have:=(ow.Qar hg).1;omega,by rw [e1];exact ow.cap.1⟩
def jn (G:Nat→Nat) (a c x:Nat):Nat:=if G x=max (G a) (G c) then min (G a) (G c) else G x
theorem Zls {G:Nat→Nat} {a c x y:Nat} (hne:G a≠G c):jn G a c x=jn G a c y↔G x=G y∨(G x=G a∧G c=G y)∨(G x=G c∧G a=G y):=by
 unfold jn
 split<;>split<;>omega
theorem Zd9 {n a c0:Nat} {G:Nat→Nat} (h:LA w bad V ((List.range n).map G)) (ha:a<n) (hc:c0<n) (hn:n≤1048576) (hbad:∀k,bad k→k<w.heap.size) :
  Calls Pg 155 #[V,.int .i64 a,.int .i64 c0] w fun r w'=>∃V' z,r=.returned (.tuple #[V',.bool z])∧Chg Qaa w w'∧(z=true↔G a≠G c0)∧LA w' bad V' ((List.range n).map (if G a=G c0 then G else jn G a c0)):=by
 obtain ⟨b,c,rfl,h1,h2,h3⟩:=h
 have hl:((List.range n).map G).length=n:=by simp
 have hg:∀{i},i<n→((List.range n).map G)[i]?=some (G i):=fun {i} hi=>by rw [List.getElem?_map,List.getElem?_range hi];rfl
 refine (Qtw _ _ _ _ _).go ?_
 unfold Qnc nr
 have c1:Chg Qaa w w.drew:=(Chg.refl _ _).drew
 have c2:Chg Qaa w w.drew.drew:=c1.drew
 have g1:=h1.nob c1
 have g2:=h1.nob c2
 generalize w.drew.drew=w2 at *
 generalize w.drew=w1 at *
 refine rdI g1 (hg ha) (rdI g1 (hg hc) (Qac (fun k=>?_) (fun k=>?_)))<;>simp only [b1s] at k
 ·have k:G a=G c0:=by omega
  rw [if_pos k]
  exact ⟨_,_,rfl,c1,⟨fun j=>(by cases j),fun j=>absurd k j⟩,b,c,rfl,g1,h2,h3⟩
 ·have k:G a≠G c0:=by omega
  rw [if_neg k]
  refine rdI g2 (hg ha) (rdI g2 (hg hc) (rdI g2 (hg ha) (rdI g2 (hg hc) ?_)))
  have emax:(if (G c0:Int)>(G a:Int) then (G c0:Int) else (G a:Int))=((max (G a) (G c0):Nat):Int):=by split<;>omega
  have emin:(if (G c0:Int)<(G a:Int) then (G c0:Int) else (G a:Int))=((min (G a) (G c0):Nat):Int):=by split<;>omega
  rw [emax,emin]
  have s2:=c2.size
  let J:Nat→List Value→World→Prop:=fun j vs w'=>∃i:Nat,∃b' c',vs=[.slice b' i c',.int .i64 i]∧i≤n∧Chg Qaa w2 w'∧Own w' w2.heap.size 3 1 b' i c' (ivs ((List.range i).map (jn G a c0)))∧j=n-i
  refine ⟨LI J,LM J,⟨_,0,_,_,rfl,by omega,Chg.refl _ _,Own.nil,rfl⟩,?_⟩
  intro _ sb i sc ii w3 hJ
  obtain ⟨i',b',c',hvs,hi,ck,ow,hj⟩:=hJ.at
  simp only [vk] at hvs
  obtain ⟨⟨rfl,rfl,rfl⟩,rfl⟩:=hvs
  have s3:=ck.size
  have g3:=g2.nob ck
  have more:∀(y:Nat),y=jn G a c0 i→i<n→alo #[.int .i64 (y:Int)] 3 w3 fun a22 w23=>∃s24b s24l s24c w25,(Builtin.append_ #[58,58] 58 #[.slice sb i sc,.slice (some a22) 1 1]).run Pg w23=.ok (.slice s24b s24l s24c) w25∧
    (LI J [.slice s24b s24l s24c,.int .i64 (IntKind.wrap .i64 ((i:Int)+1))] w25∧LM J [.slice s24b s24l s24c,.int .i64 (IntKind.wrap .i64 ((i:Int)+1))] w25<LM J [.slice sb i sc,.int .i64 i] w3):=by
   rintro _ rfl hin
   refine Qak fun A2 w4 hA2 c4 r4=>?_
   have o4:=ow.chg c4 fun _ _ _ h=>h
   have s4:=c4.size
   obtain ⟨b5,c5',w5,g5,o5,c5,_⟩:=Qb0 (sc:=1) Qdv o4 (ty:=58) (VA.Qgm (l:=1) (sz:=1) r4 rfl) (by simp [oneC]) (by omega) (by omega) (by omega) (by omega)
   rw [wrap64_in (by omega) (by omega)]
   refine ⟨_,_,_,_,g5,LI.again (k:=n-(i+1)) ⟨i+1,_,_,rfl,by omega,(ck.trans c4).trans' c5 fun k e=>.inr (o4.Qar e).1,?_,rfl⟩ (by rw [hj];omega)⟩
   have:ivs ((List.range (i+1)).map (jn G a c0))=ivs ((List.range i).map (jn G a c0))++[.int .i64 (jn G a c0 i:Int)]:=by rw [List.range_succ];simp [ivs]
   rw [this];exact o5
  rw [hl] at g3 ⊢
  refine Qac (fun hc=>?_) (fun hc=>?_)<;>simp only [b1s] at hc
  ·have hin:i<n:=by omega
   have rd:=fun {K:Int→Prop} (kk:K (G i))=>rdI (A:=(List.range n).map G) (w:=w3) (b:=b) (j:=i) (d:=G i) (K:=K) (by rw [hl];exact g3) (hg hin) kk
   rw [hl] at rd
   refine rd (Qac (fun hc2=>?_) (fun hc2=>?_))<;>simp only [b1s] at hc2
   ·exact more _ (by unfold jn;rw [if_pos (by omega)]) hin
   ·exact rd (more _ (by unfold jn;rw [if_neg (by omega)]) hin)
  ·obtain rfl:i=n:=by omega
   have e1:((List.range i).map (jn G a c0)).length=i:=by simp
   refine ⟨_,_,rfl,c2.trans ck,⟨fun _=>k,fun _=>rfl⟩,sb,sc,by rw [e1],by rw [e1];exact VA.Qa6 ow,fun g _ hg hb=>?_,by rw [e1];exact ow.cap.1⟩
   have:=(ow.Qar hg).1
   have:=hbad g hb
   omega
theorem Zi8 {G:Nat→Nat} {n a c:Nat} (h:∀x,x<n→G x≤x∧G (G x)=G x) (ha:a<n) (hc:c<n):∀x,x<n→(if G a=G c then G else jn G a c) x≤x∧(if G a=G c then G else jn G a c) ((if G a=G c then G else jn G a c) x)=(if G a=G c then G else jn G a c) x:=by
 intro x hx
 by_cases e:G a=G c
 ·rw [if_pos e];exact h x hx
 rw [if_neg e]
 have h1:=h x hx
 have h2:=h a ha
 have h3:=h c hc
 rcases Nat.lt_or_ge (G a) (G c) with l | l
 ·have e1:∀y,jn G a c y=if G y=G c then G a else G y:=fun y=>by unfold jn;rw [Nat.max_eq_right (by omega),Nat.min_eq_left (by omega)]
  rw [e1 x]
  by_cases k:G x=G c
  ·rw [if_pos k,e1,h2.2,if_neg e];exact ⟨by omega,rfl⟩
  ·rw [if_neg k,e1,h1.2,if_neg k];exact ⟨h1.1,rfl⟩
 ·have e1:∀y,jn G a c y=if G y=G a then G c else G y:=fun y=>by unfold jn;rw [Nat.max_eq_left (by omega),Nat.min_eq_right (by omega)]
  rw [e1 x]
  by_cases k:G x=G a
  ·rw [if_pos k,e1,h3.2,if_neg (fun j=>e j.symm)];exact ⟨by omega,rfl⟩
  ·rw [if_neg k,e1,h1.2,if_neg k];exact ⟨h1.1,rfl⟩
theorem Q36 {n m:Nat} (h:TF w bad b n tl) (hM:MP N tl) (z:Sz N n m tl):Calls Pg 71 #[.agg #[.int .i64 (m:Nat),.slice b n c]] w fun r w'=>∃V G,r=.returned V∧Chg Qaa w w'∧LA w' (fun k=>k<w.heap.size) V ((List.range n).map G)∧(∀x y,x<n→y<n→(G x=G y↔GC tl N x y))∧∀x,x<n→G x≤x∧G (G x)=G x:=by
 refine (Qq3 _ _ _ _ _ (fun v' w'=>∃G,Chg Qaa w w'∧LA w' (fun k=>k<w.heap.size) v' ((List.range n).map G)∧(∀x y,x<n→y<n→(G x=G y↔GC tl N x y))∧∀x,x<n→G x≤x∧G (G x)=G x) ?_).mono (by rintro e w' ⟨v,rfl,G,k⟩;exact ⟨v,G,rfl,k⟩)
 unfold Qkc nr
 have zn:=z.vn
 have zm:=z.em
 have zN:=z.nN
 have hn:n≤1048576:=by omega
 refine Qak fun A1 w1 hA1 c1 r1=>?_
 rw [Qad]
 refine Qai r1 rfl ((Zh9 hn).mono ?_)
 rintro r w2 ⟨V0,rfl,c2,b0,c0,rfl,hv0,ho0,hc0⟩
 have s1:=c1.size
 have s2:=c2.size
 refine ⟨_,_,_,rfl,Qdw (c2.row (fun h=>h) r1) ((Q37 (h.nob (c1.trans c2)) hM.toND z).mono ?_)⟩
 rintro r w3 ⟨V1,rfl,c3,b1,d1,rfl,hv1,ho1,hc1⟩
 have s3:=c3.size
 refine ⟨_,_,_,rfl,?_⟩
 have cw:=(c1.trans c2).trans c3
 have q1:=(c2.trans c3).row (fun h=>h) r1
 have h3:=h.nob cw
 have hdn:((List.range (2*m)).filter fun d=>decide (d∈dl tl N)).length≤2*m:=by
  have:=List.length_filter_le (fun d=>decide (d∈dl tl N)) (List.range (2*m))
  rwa [List.length_range] at this
 have hdm:∀d,d∈(List.range (2*m)).filter (fun d=>decide (d∈dl tl N))↔d∈dl tl N:=fun d=>by
  rw [List.mem_filter,List.mem_range,decide_eq_true_iff]
  exact ⟨fun k=>k.2,fun k=>⟨z.e d k,k⟩⟩
 generalize (List.range (2*m)).filter (fun d=>decide (d∈dl tl N))=L at *
 let lk:(Nat→Prop)→Nat→Nat→Prop:=fun P=>RT fun x y=>∃e,P (2*e)∧((x=og tl N (2*e)∧y=og tl N (2*e+1))∨(x=og tl N (2*e+1)∧y=og tl N (2*e)))
 let J:Nat→List Value→World→Prop:=fun j vs w'=>∃i:Nat,∃V G,vs=[V,.int .i64 i]∧i≤L.length∧Chg Qaa w3 w'∧LA w' (fun k=>k<w.heap.size) V ((List.range n).map G)∧(∀x y,x<n→y<n→(G x=G y↔lk (fun d=>d∈L.take i) x y))∧(∀x,x<n→G x≤x∧G (G x)=G x)∧j=L.length-i
 refine ⟨LI J,LM J,⟨_,0,_,id,rfl,by omega,Chg.refl _ _,?_,?_,fun x hx=>⟨Nat.le_refl _,rfl⟩,rfl⟩,?_⟩
 ·rw [List.map_id]
  have h0:LA w2 (fun k=>k<w1.heap.size) (.slice b0 (List.range n).length c0) (List.range n):=⟨b0,c0,rfl,hv0,ho0,hc0⟩
  exact (h0.nob c3).weak fun k hk=>Nat.lt_of_lt_of_le hk s1
 ·intro x y _ _
  constructor
  ·intro k;rw [show x=y from k];exact .refl
  ·intro k
   induction k with
   | refl=>rfl
   | step _ k _=>obtain ⟨e,k,_⟩:=k;simp at k
 intro _ sb sl sc i w4 hJ
 obtain ⟨i,V,G,hvs,hi,ck,hla,hG,hGG,hj⟩:=hJ.at
 simp only [vj] at hvs
 obtain ⟨rfl,rfl⟩:=hvs
 have s4:=ck.size
 refine Qac (fun hc=>?_) (fun hc=>?_)<;>simp only [b1s] at hc
 ·have hi':i<L.length:=by omega
  obtain ⟨x,hx⟩:∃x,L[i]?=some x:=⟨_,List.getElem?_eq_getElem hi'⟩
  have hxm:=(hdm x).1 (List.mem_of_getElem? hx)
  have hxl:=hM.lt x hxm
  refine rdI (hv1.nob ck) hx ⟨by omega,?_⟩
  rw [show (2:Int)=((2:Nat):Int) from rfl,Q3k]
  refine Qac (fun hc2=>?_) (fun hc2=>?_)<;>simp only [b1s] at hc2
  ·obtain ⟨e,rfl⟩:∃e,x=2*e:=⟨x/2,by omega⟩
   have he:Laid tl N e:=hxm
   have c5:=ck.trans ((Chg.refl Qaa w4).drew)
   have hla5:=hla.nob ((Chg.refl Qaa w4).drew)
   generalize w4.drew=w5 at *
   refine Qdw (c5.row (fun h=>h) q1) (rdI (hv1.nob c5) hx ((Qxi (h3.nob c5) hM.toND z).mono ?_))
   rintro r w6 ⟨y,k,rfl,c6,fd⟩
   obtain ⟨k,rfl,rfl,_⟩:=fd.on hM.toND he
   refine ⟨_,_,rfl,?_⟩
   have c7:=(c5.trans c6).trans ((Chg.refl Qaa w6).drew)
   have hla7:=hla5.nob (c6.trans ((Chg.refl Qaa w6).drew))
   generalize w6.drew=w7 at *
   refine Qdw (c7.row (fun h=>h) q1) (rdI (hv1.nob c7) hx ?_)
   rw [wrap64_in (by omega) (by omega),show ((2*e:Nat):Int)+1=((2*e+1:Nat):Int) by omega]
   refine (Qxi (h3.nob c7) hM.toND z).mono ?_
   rintro r w8 ⟨y,k2,rfl,c8,fd⟩
   obtain ⟨k2,rfl,rfl,_⟩:=fd.on hM.toND (hM.odd he)
   have s7:=(c7.trans c8).size
   have o1:=z.ogn he
   have o2:=z.ogn (hM.odd he)
   refine ⟨_,_,rfl,(Zd9 (hla7.nob c8) o1 o2 hn fun k hk=>by omega).mono ?_⟩
   rintro r w9 ⟨V9,y9,rfl,c9,hz,hla9⟩
   obtain ⟨b9,d9,rfl,hv9,ho9,hc9⟩:=hla9
   refine ⟨_,_,_,_,rfl,?_⟩
   rw [wrap64_in (by omega) (by omega)]
   refine LI.again (k:=L.length-(i+1)) ⟨i+1,_,_,rfl,by omega,(c7.trans c8).trans c9,⟨b9,d9,rfl,hv9,ho9,hc9⟩,fun x y hx' hy'=>?_,Zi8 hGG o1 o2,rfl⟩ (by rw [hj];omega)
   have key:lk (fun d=>d∈L.take (i+1)) x y↔lk (fun d=>d∈L.take i) x y∨(lk (fun d=>d∈L.take i) x (og tl N (2*e))∧lk (fun d=>d∈L.take i) (og tl N (2*e+1)) y)∨(lk (fun d=>d∈L.take i) x (og tl N (2*e+1))∧lk (fun d=>d∈L.take i) (og tl N (2*e)) y):=by
    refine Q3u (fun x y ⟨e,k1,k2⟩=>⟨e,k1,k2.symm.imp (fun k=>⟨k.2,k.1⟩) fun k=>⟨k.2,k.1⟩⟩) fun u v=>?_
    rw [List.take_add_one,hx]
    constructor
    ·rintro ⟨e',k1,k2⟩
     rcases List.mem_append.1 k1 with k1 | k1
     ·exact .inl ⟨e',k1,k2⟩
     ·simp at k1
      obtain rfl:e'=e:=by omega
      exact .inr k2
    ·rintro (⟨e',k1,k2⟩ | k2)
     ·exact ⟨e',List.mem_append_left _ k1,k2⟩
     ·exact ⟨e,List.mem_append_right _ (by simp),k2⟩
   rw [key,←hG x y hx' hy',←hG x _ hx' o1,←hG _ y o2 hy',←hG x _ hx' o2,←hG _ y o1 hy']
   by_cases hg:G (og tl N (2*e))=G (og tl N (2*e+1))
   ·rw [if_pos hg];omega
   ·rw [if_neg hg,Zls hg]
  ·rw [wrap64_in (by omega) (by omega)]
   refine LI.again (k:=L.length-(i+1)) ⟨i+1,_,_,rfl,by omega,ck,hla,fun a c ha hc'=>?_,hGG,rfl⟩ (by rw [hj];omega)
   rw [hG a c ha hc']
   have:∀e,2*e∈L.take (i+1)↔2*e∈L.take i:=fun e=>by
    rw [List.take_add_one,hx,List.mem_append]
    constructor
    ·rintro (k | k)
     ·exact k
     ·simp at k;omega
    ·exact .inl
   constructor
   ·exact RT.mono fun u v ⟨e,k1,k2⟩=>⟨e,(this e).2 k1,k2⟩
   ·exact RT.mono fun u v ⟨e,k1,k2⟩=>⟨e,(this e).1 k1,k2⟩
 ·refine ⟨G,cw.trans ck,hla,fun x y hx hy=>?_,hGG⟩
  rw [hG x y hx hy,List.take_of_length_le (by omega)]
  constructor
  ·exact RT.mono fun u v ⟨e,k1,k2⟩=>⟨e,(hdm _).1 k1,k2⟩
  ·exact RT.mono fun u v ⟨e,k1,k2⟩=>⟨e,(hdm _).2 k1,k2⟩
end
section
variable {w w':World} {A A2:Nat} {ty ty2:TypeId} {n m:Int} {b b2 b3:Option Addr} {l c l2 c2 l3 c3:Nat} {cs:List Value}
end
section
variable {w w':World} {bad bad':Nat→Prop} {lb tb wb b:Option Addr} {lc tc wc' l c N d:Nat} {be ce:Int} {lv:Nat→Bool} {tl:Nat→List Nat} {W:Nat→Int} {S:Nat→Prop} {q:List (List Nat)} {B D:Nat→Option (Nat × Nat)} {lim:Nat→Prop}
end
end Core
end Go.Proofs.YtfeekmmfdkfgmaaGreatDoor
