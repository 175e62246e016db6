/-
The reference of layer 10: lists of darts for each vertex; darts found, put, taken out.
Conditions: those that each theorem states.
-/
import Derived.Test.YtokjfdggpapkbaaGreatDoorGCoreC
import Derived.Test.YtokjfdggpapkbaaGreatDoorGMem
import Derived.Test.YtokjfdggpapkbaaGreatDoorHsh
set_option linter.unusedVariables false
set_option linter.unusedSimpArgs false
namespace Go.Proofs.YtokjfdggpapkbaaGreatDoor
open Go Go.RowKit
theorem sts_go {A:Nat} {ty:TypeId}:∀(vs cs pre:List Value) (w:World) (K:World→Prop),Row w.heap A ty (pre++cs)→vs.length=cs.length→(∀v∈vs,oneC v=true)→(∀w',Chg (·=A) w w'→Row w'.heap A ty (pre++vs)→K w')→sts ⟨A,0,none⟩ pre.length vs w K
 | [],cs,pre,w,K,r,hl,_,k=>by
  obtain rfl:cs=[]:=List.length_eq_zero_iff.1 hl.symm
  unfold sts;exact k w (Chg.refl _ _) r
 | v::vs,[],pre,w,K,r,hl,_,k=>by cases hl
 | v::vs,c::cs,pre,w,K,r,hl,h1,k=>by
  have go:sto ⟨A,pre.length,none⟩ v w fun w'=>sts ⟨A,0,none⟩ (pre.length+1) vs w' K:=by
   refine Qa0 r (by simp) (h1 v (by simp)) fun w1 c1 r1=>?_
   have e1:(pre++c::cs).set pre.length v=(pre++[v])++cs:=by
    rw [List.set_append_right _ _ (Nat.le_refl _)];simp
   rw [e1] at r1
   have:=sts_go vs cs (pre++[v]) w1 K r1 (by simpa using hl) (fun u hu=>h1 u (List.mem_cons_of_mem _ hu)) fun w2 c2 r2=>k w2 (c1.trans c2) (by simpa using r2)
   rwa [List.length_append] at this
  cases pre with
  | nil=>exact go
  | cons p pre=>
   show sto (Addr.add ⟨A,0,none⟩ (pre.length+1)) v w fun w'=>sts ⟨A,0,none⟩ (pre.length+2) vs w' K
   rw [Qac,Nat.zero_add];exact go
theorem Qtq {A:Nat} {ty:TypeId} {vs cs:List Value} {w:World} {K:World→Prop} (r:Row w.heap A ty cs) (hl:vs.length=cs.length) (h1:∀v∈vs,oneC v=true) (k:∀w',Chg (·=A) w w'→Row w'.heap A ty vs→K w'):sts ⟨A,0,none⟩ 0 vs w K:=
 sts_go vs cs [] w K r hl h1 k
namespace Core
open Go.Proofs.YtokjfdggpapkbaaGreatDoor.Seq Go.Proofs.YtokjfdggpapkbaaGreatDoor.Cut Go.Proofs.YtokjfdggpapkbaaGreatDoor.Web
theorem Qvp:ET Pg Qb4 Qan 1 24:=ET.of (by kernel_rfl) (by kernel_rfl)
def Okb (bad:Nat→Prop) (l:Nat) (b:Option Addr):Prop:=∀g,0<l→bk b=some g→¬bad g
def LA (w:World) (bad:Nat→Prop) (v:Value) (A:List Nat):Prop:=∃b c,v=.slice b A.length c∧VA w b A.length 1 (ivs A)∧Okb bad A.length b∧A.length≤c
def TF (w:World) (bad:Nat→Prop) (b:Option Addr) (N:Nat) (tl:Nat→List Nat):Prop:=∃V:Nat→Value,VA w b N 1 (recs (fun i=>[V i]) N)∧Okb bad N b∧∀i,i<N→LA w bad (V i) (tl i)
section
variable {w w':World} {bad:Nat→Prop} {b sb:Option Addr} {l c sc N v d e j:Nat} {E x be:Int} {A:List Nat} {V:Value} {tl:Nat→List Nat} {S:Nat→Prop}
theorem Qxc:(ivs A).length=A.length:=List.length_map ..
theorem ivs_get (h:A[j]?=some d):(ivs A)[j]?=some (.int .i64 d):=by unfold ivs;rw [List.getElem?_map,h];rfl
theorem LA.keep (h:LA w bad V A) (k:Chg S w w') (hS:∀i,S i→bad i):LA w' bad V A:=by
 obtain ⟨b,c,rfl,h1,h2,h3⟩:=h
 exact ⟨b,c,rfl,h1.keep k fun g hl hg hs=>h2 g hl hg (hS g hs),h2,h3⟩
theorem TF.keep (h:TF w bad b N tl) (k:Chg S w w') (hS:∀i,S i→bad i):TF w' bad b N tl:=by
 obtain ⟨V,h1,h2,h3⟩:=h
 exact ⟨V,h1.keep k fun g hl hg hs=>h2 g hl hg (hS g hs),h2,fun i hi=>(h3 i hi).keep k hS⟩
theorem TF.nob (h:TF w bad b N tl) (k:Chg Qaa w w'):TF w' bad b N tl:=h.keep k fun _ h=>h.elim
theorem V_len {V:Nat→Value} (x:Nat):([V x]:List Value).length=1:=rfl
theorem V_get {V:Nat→Value} (h:v<N):(recs (fun i=>[V i]) N)[v]?=some (V v):=by
 have:=Qe5 (k:=0) (fun i=>[V i]) V_len h (by omega)
 rwa [Nat.mul_one,Nat.add_zero] at this
theorem LA.weak {bad':Nat→Prop} (h:LA w bad V A) (k:∀i,bad' i→bad i):LA w bad' V A:=by
 obtain ⟨b,c,rfl,h1,h2,h3⟩:=h
 exact ⟨b,c,rfl,h1,fun g hl hg hb=>h2 g hl hg (k g hb),h3⟩
theorem TF.weak {bad':Nat→Prop} (h:TF w bad b N tl) (k:∀i,bad' i→bad i):TF w bad' b N tl:=by
 obtain ⟨V,h1,h2,h3⟩:=h
 exact ⟨V,h1,fun g hl hg hb=>h2 g hl hg (k g hb),fun i hi=>(h3 i hi).weak k⟩
theorem TF.rd (h:TF w bad b N tl) (hv:v<N) {K:Option Addr→Nat→Nat→Prop} (k:∀eb ec,VA w eb (tl v).length 1 (ivs (tl v))→Okb bad (tl v).length eb→(tl v).length≤ec→K eb (tl v).length ec):ixS b N (v:Int) 1 fun a=>ldS a w K:=by
 obtain ⟨V,h1,h2,h3⟩:=h
 obtain ⟨eb,ec,e1,k1,k2,k3⟩:=h3 v hv
 refine h1.ix hv fun g o e cs r _ hc=>?_
 refine Qaj (x:=eb) (l:=(tl v).length) (c:=ec) r ?_ (k eb ec k1 k2 k3)
 have:=hc 0 (by omega)
 rwa [Nat.mul_one,Nat.add_zero,Nat.add_zero,V_get hv,e1] at this
theorem rdI (h:VA w b A.length 1 (ivs A)) (hd:A[j]?=some d) {K:Int→Prop} (k:K d):ixS b A.length (j:Int) 1 fun a=>ldI .i64 a w K:=by
 have hj:j<A.length:=(List.getElem?_eq_some_iff.1 hd).1
 refine h.ix hj fun g o e cs r _ hc=>Qaf (n:=(d:Int)) r ?_ k
 have:=hc 0 (by omega)
 rwa [Nat.mul_one,Nat.add_zero,Nat.add_zero,ivs_get hd] at this
theorem Q09 {k:Nat} (h:VA w b A.length 1 (ivs A)) (hk:k≤A.length) (hc:A.length≤c):VA w (if c=k then b else Option.map (fun a=>Addr.add a (k*1)) b) (A.length-k) 1 (ivs (A.drop k)):=by
 by_cases h0:A.length-k=0
 ·rw [List.drop_eq_nil_iff.2 (by omega),h0];exact VA.zero
 ·rw [if_neg (by omega)]
  have:=h.post hk
  unfold ivs at *
  rw [List.map_drop]
  rwa [Nat.mul_one] at this ⊢
end
end Core
end Go.Proofs.YtokjfdggpapkbaaGreatDoor
namespace Go.Proofs.YtokjfdggpapkbaaGreatDoor
open Go Go.RowKit
namespace Core
open Go.Proofs.YtokjfdggpapkbaaGreatDoor.Seq Go.Proofs.YtokjfdggpapkbaaGreatDoor.Cut Go.Proofs.YtokjfdggpapkbaaGreatDoor.Web
section
variable {w w':World} {bad:Nat→Prop} {b sb:Option Addr} {l c sc N v d e j u:Nat} {E x be ce:Int} {A:List Nat} {V:Value} {tl:Nat→List Nat} {S:Nat→Prop}
end
end Core
end Go.Proofs.YtokjfdggpapkbaaGreatDoor
namespace Go.Proofs.YtokjfdggpapkbaaGreatDoor
open Go Go.RowKit
namespace Core
open Go.Proofs.YtokjfdggpapkbaaGreatDoor.Seq Go.Proofs.YtokjfdggpapkbaaGreatDoor.Cut Go.Proofs.YtokjfdggpapkbaaGreatDoor.Web
structure Orb (tl:Nat→List Nat) (N d:Nat) (L:List Nat):Prop where
 h:L.head?=some d
 n:L.Nodup
 m:∀x∈L,x∈dl tl N
 c:∀u v,Cy L u v→ph tl N u=v
section
variable {w w':World} {bad:Nat→Prop} {b sb:Option Addr} {l c sc N v d e j u x y:Nat} {E be ce:Int} {A L:List Nat} {V:Value} {tl:Nat→List Nat} {S:Nat→Prop} {q:List (List Nat)} {B D:Nat→Option (Nat × Nat)} {lim:Nat→Prop}
theorem Orb.pf (h:Orb tl N d L):y∈L↔PF tl N d y:=by
 have hd:d∈L:=List.mem_of_head? h.h
 constructor
 ·intro k
  exact RT.mono (fun u v k=>(h.c u v k).symm) (cy_rt hd k)
 ·intro k
  induction k with
  | refl=>exact hd
  | step _ k ih=>
   subst k
   obtain ⟨z,hz⟩:=Q1v ih
   rw [h.c _ z hz];exact hz.mem.2
theorem Orb.len (h:Orb tl N d L) (nd:ND N tl):L.length≤2*N:=Qbl h.n fun x hx=>nd.lt x (h.m x hx)
theorem Q1k:∀{L:List Nat} {i:Nat},L[i]?=some x→L[i+1]?=some y→Web.Nx L x y
 | [],_,h,_=>by simp at h
 | a::L,0,h,k=>by simp at h k;left;exact ⟨h,by rw [List.head?_eq_getElem?];exact k⟩
 | a::L,i+1,h,k=>by simp at h k;right;exact Q1k h k
theorem pf_in (hM:MP N tl) (hx:x∈dl tl N) (k:PF tl N x y):y∈dl tl N:=by
 induction k with
 | refl=>exact hx
 | step _ k ih=>subst k;exact hM.Qvz ih
end
end Core
end Go.Proofs.YtokjfdggpapkbaaGreatDoor
namespace Go.Proofs.YtokjfdggpapkbaaGreatDoor
open Go Go.RowKit
namespace Core
open Go.Proofs.YtokjfdggpapkbaaGreatDoor.Seq Go.Proofs.YtokjfdggpapkbaaGreatDoor.Cut Go.Proofs.YtokjfdggpapkbaaGreatDoor.Web
section
variable {w w':World} {A A2:Nat} {ty ty2:TypeId} {n m:Int} {b b2 b3:Option Addr} {l c l2 c2 l3 c3:Nat} {cs:List Value}
end
section
variable {w w':World} {bad bad':Nat→Prop} {lb tb wb b:Option Addr} {lc tc wc' l c N d:Nat} {be ce:Int} {lv:Nat→Bool} {tl:Nat→List Nat} {W:Nat→Int} {S:Nat→Prop} {q:List (List Nat)} {B D:Nat→Option (Nat × Nat)} {lim:Nat→Prop}
end
end Core
end Go.Proofs.YtokjfdggpapkbaaGreatDoor
