/-
What the laws' own helpers of layer 16 make: an error's number, lists compared.
Conditions: the package variable of errors is laid out.
-/
import Derived.Test.YtpmicakdjhoafaaGreatDoorGLaw
import Derived.Test.YtpmicakdjhoafaaGreatDoorShPlaitlaw16
import Derived.Test.YtpmicakdjhoafaaGreatDoorGRefC
import Derived.Test.YtpmicakdjhoafaaGreatDoorGCoreC
set_option linter.unusedVariables false
set_option linter.unusedSimpArgs false
namespace Go.Proofs.YtpmicakdjhoafaaGreatDoor
open Go
namespace Seq
theorem c_num16 {w:World} {c:Int} (hg:LaidG w):Calls Pg Qbj #[errV c] w fun e w'=>e=.returned (.int .i64 c)∧Chg Qac w w':=by
 refine (Qqs _ _ (fun v' w'=>v'=.int .i64 c∧Chg Qac w w') ?_).mono (by rintro e w' ⟨v,rfl,rfl,k⟩;exact ⟨rfl,k⟩)
 unfold Qmw
 refine Qa9 fun ha=>?_
 refine ⟨Qio c,?_⟩
 rw [Qin]
 refine Qag (fun h=>?_) (fun h=>?_)
 ·simp only [decide_eq_true_eq] at h
  exact ⟨by rw [h],(Chg.refl _ _).alloc _⟩
 ·simp only [decide_eq_false_iff_not] at h
  rw [errV_ne h]
  refine (as_hit c ⟨w.heap.size,0,none⟩ (.int .i64 0) _ (hg.alloc _) (by rw [ha.cell];rfl) (ha.frozen 0)).mono ?_
  rintro e w' ⟨rfl,rfl⟩
  refine ⟨_,rfl,?_⟩
  have hA:=(((ha.alloc (.cells #[.pointer (some ⟨w.heap.size,0,none⟩)] Qkf)).alloc (.cells #[.pointer (some ⟨1,Qkf,none⟩),.pointer (some ⟨(w.alloc (.cells #[.int .i64 0] Qah)).heap.size,0,none⟩),.int .u64 150] Qky)).alloc (.cells #[.pointer (some ⟨1,Qkf,none⟩),.pointer (some ⟨(w.alloc (.cells #[.int .i64 0] Qah)).heap.size,0,none⟩),.int .u64 150] Qky)).alloc (.cells #[.int .i64 c] Qah)
  refine Qag (fun _=>?_) (fun h=>by cases h)
  refine Qaj (hA.set 0 (.int .i64 c)) rfl ?_
  exact ⟨rfl,(((((Chg.refl Qac w).alloc _).alloc _).alloc _).alloc _ |>.alloc _).setCell _ _ (.inr (Nat.le_refl _))⟩
theorem c_ints16 {w:World} {b1 b2:Option Addr} {l1 c1 l2 c2:Nat} {A B:List Int} (h1:IA w b1 l1 A) (h2:IA w b2 l2 B) (hl:l1≤4611686018427387904) :
  Calls Pg Qij #[.slice b1 l1 c1,.slice b2 l2 c2] w fun e w'=>e=.returned (.bool (decide (A=B)))∧Chg Qac w w':=by
 refine (Qpm _ _ _ _ _ _ _ (fun v' w'=>v'=.bool (decide (A=B))∧Chg Qac w w') ?_).mono (by rintro e w' ⟨v,rfl,rfl,k⟩;exact ⟨rfl,k⟩)
 unfold Qlq
 refine Qag (fun hc=>?_) (fun hc=>?_)<;>simp only [b1s] at hc
 ·have:A≠B:=by rintro rfl;exact hc (by rw [←h1.1,←h2.1])
  rw [decide_eq_false this]
  exact ⟨rfl,Chg.refl _ _⟩
 ·have hll:l1=l2:=by omega
  subst hll
  let J:Nat→List Value→World→Prop:=fun j vs w'=>∃i:Nat,vs=[.int .i64 i]∧i≤l1∧A.take i=B.take i∧Chg Qac w w'∧j=l1-i
  refine ⟨LI J,LM J,⟨_,0,rfl,by omega,by simp,Chg.refl _ _,rfl⟩,?_⟩
  intro _ n4 w5 hJ
  obtain ⟨i,hvs,hi,hab,hch,hj⟩:=hJ.at
  simp only [List.cons.injEq,Value.int.injEq,and_true,true_and] at hvs
  subst hvs
  have hA:=h1.1
  have hB:=h2.1
  refine Qag (fun hc=>?_) (fun hc=>?_)<;>simp only [b1s] at hc
  ·have hiA:i<A.length:=by omega
   have hiB:i<B.length:=by omega
   refine (h1.nob hch).drew.rd (List.getElem?_eq_getElem hiA) ?_
   refine (h2.nob hch).drew.rd (List.getElem?_eq_getElem hiB) ?_
   refine Qag (fun h=>?_) (fun h=>?_)<;>simp only [b1s] at h
   ·have:A≠B:=by rintro rfl;exact h rfl
    rw [decide_eq_false this]
    exact ⟨rfl,hch.drew⟩
   ·rw [wrap64_in (by omega) (by omega)]
    refine LI.again (k:=l1-(i+1)) ⟨i+1,rfl,by omega,?_,hch.drew,rfl⟩ (by rw [hj];omega)
    rw [List.take_add_one,List.take_add_one,hab,List.getElem?_eq_getElem hiA,List.getElem?_eq_getElem hiB,h]
  ·have:A=B:=by
    rw [←List.take_of_length_le (l:=A) (i:=i) (by omega),hab,List.take_of_length_le (by omega)]
   rw [decide_eq_true this]
   exact ⟨rfl,hch⟩
end Seq
end Go.Proofs.YtpmicakdjhoafaaGreatDoor
namespace Go.Proofs.YtpmicakdjhoafaaGreatDoor
open Go Go.RowKit
namespace Core
open Go.Proofs.YtpmicakdjhoafaaGreatDoor.Seq Go.Proofs.YtpmicakdjhoafaaGreatDoor.Cut Go.Proofs.YtpmicakdjhoafaaGreatDoor.Web
section
variable {w₀ w w':World} {b:Bk} {lb tb wb sb:Option Addr} {lc tc wc' sl sc N d:Nat} {bad X:Nat→Prop} {be ce er:Int} {lv lv':Nat→Bool} {tl tl':Nat→List Nat} {ky ky' W W':Nat→Int} {q q':List (List Nat)} {B B' D D':Nat→Option (Nat × Nat)}
theorem jE_0 {e u v:Int} (h:jE lv tl N e u be v ce=0):u.toNat<N∧v.toNat<N:=by
 unfold jE at h
 split at h
 ·split at h
  ·cases h
  ·split at h
   ·rename_i k
    unfold k2E at k
    split at k
    ·rename_i k0
     obtain ⟨x,rfl,hx,_⟩:=kE_0 k0
     obtain ⟨y,rfl,hy,_⟩:=kE_0 k
     exact ⟨hx,hy⟩
    ·contradiction
   ·contradiction
 ·cases h
theorem Bk.sub {k:Nat} (h:b.ch k):b.has k:=by
 unfold Bk.ch at h
 unfold Bk.has
 rcases h with rfl | rfl | rfl | (rfl | rfl | rfl) | (rfl | rfl | rfl) | rfl<;>simp
theorem MX.lowA {E:Int} (h:MX w.heap b N lv tl q B D ky E) (k:Nat) (hk:b.has k):k<w.heap.size:=by
 obtain ⟨t1,t2,t3,t4⟩:=h.t.lt
 obtain ⟨_,f,_⟩:=h.w.f
 obtain ⟨_,g,_⟩:=h.f
 unfold Bk.has at hk
 rcases hk with rfl | rfl | rfl | (rfl | rfl | rfl | rfl) | (rfl | rfl | rfl | rfl | rfl | rfl | rfl) | rfl | rfl
 ·exact h.r.lt
 ·exact h.v.lt
 ·exact h.k.lt
 ·exact t1
 ·exact t2
 ·exact t3
 ·exact t4
 ·exact h.w.r.lt
 ·exact h.w.a.r.lt
 ·exact h.w.a.a.lt.1
 ·exact h.w.a.a.lt.2
 ·exact f.lt.1
 ·exact f.lt.2
 ·exact h.w.e.lt
 ·exact g.lt.1
 ·exact g.lt.2
theorem Qwt {p r:Int} {z:Bool} (h:XR w bad N lv tl W lb tb wb) (nd:ND N tl) (hN:N≤1048576):Calls Pg Qai #[mV N lb lc tb tc wb wc',.agg #[.int .i64 p,.int .i64 r],.bool z] w fun e w'=>∃x y,e=.returned (.agg #[.int .i64 x,.int .i64 y])∧Chg Qac w w':=by
 refine (Qnq _ _ _ _ _ _ _ _ _ _ _ _ _ _ _ (fun v' w'=>∃x y,v'=.agg #[.int .i64 x,.int .i64 y]∧Chg Qac w w') ?_).mono (by rintro e w' ⟨v,rfl,x,y,rfl,k⟩;exact ⟨x,y,rfl,k⟩)
 unfold Qj5
 refine Qa2 fun A1 w1 hA1 c1 r1=>Qa2 fun A2 w2 hA2 c2 r2=>Qa2 fun A3 w3 hA3 c3 r3=>?_
 have cc:=(c1.trans c2).trans c3
 have q1:=(c2.trans c3).row (fun h=>h) r1
 have q2:=c3.row (fun h=>h) r2
 have s1:=c1.size
 have s2:=c2.size
 refine Qgp q1 ((r_Vertices (h.nob cc) hN).mono ?_)
 rintro e w4 ⟨V,rfl,c4,vb,vc,rfl,hv,_,_⟩
 have p1:=c4.row (fun h=>h) q1
 have p2:=c4.row (fun h=>h) q2
 have p3:=c4.row (fun h=>h) r3
 have h4:=h.nob (cc.trans c4)
 have out:∀{x y:Int} {w5:World},Chg Qac w w5→Row w5.heap A3 Qat [.int .i64 0,.int .i64 0]→sto ⟨A3,0,none⟩ (.int .i64 x) w5 fun w6=>sto (Addr.add ⟨A3,0,none⟩ 1) (.int .i64 y) w6 fun w7=>ldI .i64 ⟨A3,0,none⟩ w7 fun n=>ldI .i64 (Addr.add ⟨A3,0,none⟩ 1) w7 fun m=>∃x y,(Value.agg #[.int .i64 n,.int .i64 m])=.agg #[.int .i64 x,.int .i64 y]∧Chg Qac w w7:=fun {x y w5} k r=>by
  rw [Qaf]
  exact Qdb r (by simp) rfl fun w6 c6 r6=>Qdb r6 (by simp) rfl fun w7 c7 r7=>Qaj (n:=x) r7 rfl (Qaj (n:=y) r7 rfl ⟨_,_,rfl,k.trans' (c6.trans c7) fun i e=>.inr (by omega)⟩)
 refine ⟨_,_,_,rfl,fun _ w'=>w'=w4∧(List.filter lv (List.range N)).length≠0,Qag (fun _=>?_) (fun _=>Qag (fun _=>?_) (fun k=>⟨rfl,?_⟩)),?_⟩
 ·exact Qaj (n:=p) p2 rfl (Qaj (n:=r) p2 rfl (out (cc.trans c4) p3))
 ·exact Qaj (n:=p) p2 rfl (Qaj (n:=r) p2 rfl (out (cc.trans c4) p3))
 ·simp only [b1s] at k;omega
 rintro _ w5 ⟨rfl,hne⟩
 have hll:(List.filter lv (List.range N)).length≤N:=by
  have:=List.length_filter_le lv (List.range N)
  rwa [List.length_range] at this
 obtain ⟨hz,i,hi,e1⟩:=idx_ex p (show 0<(List.filter lv (List.range N)).length by omega) (by omega)
 refine Qhj (i:=0) (by omega) (Qaj (n:=p) p2 rfl ⟨hz,?_⟩)
 rw [e1]
 obtain ⟨v,hvx⟩:∃v,(List.filter lv (List.range N))[i]?=some v:=⟨_,List.getElem?_eq_getElem hi⟩
 have hvN:v<N:=List.mem_range.1 (List.mem_filter.1 (List.mem_of_getElem? hvx)).1
 refine rdI hv hvx ?_
 rw [Qaf,Qaf]
 refine Qba p1 rfl (h4.t.rd hvN fun eb ec k1 k2 k3=>Qag (fun k=>out (cc.trans c4) p3) (fun k=>?_))
 have c6:=(Chg.refl Qac w5).drew
 have h6:=h4.nob c6
 have m1:=c6.row (fun h=>h) p1
 have m2:=c6.row (fun h=>h) p2
 have m3:=c6.row (fun h=>h) p3
 have c7:=(cc.trans c4).trans c6
 generalize w5.drew=w6 at *
 have hlen:=Qw6 nd hvN
 have hpos:0<(tl v).length:=by simp only [b1s] at k;omega
 refine Qba m1 rfl (h6.t.rd hvN fun eb2 ec2 j1 j2 j3=>Qhj (i:=1) (by omega) (Qaj (n:=r) m2 rfl (Qba m1 rfl (h6.t.rd hvN fun eb3 ec3 i1 i2 i3=>?_))))
 obtain ⟨hz2,j,hj,e2⟩:=idx_ex r hpos (by omega)
 refine ⟨hz2,?_⟩
 rw [e2]
 exact rdI j1 (List.getElem?_eq_getElem hj) (out c7 m3)
theorem lf {A C:Nat} {ty ty2:TypeId} {a0 a1 b0 b1:Int} {K:World→Prop} (hne:A≠C) (r:Row w.heap A ty [.int .i64 0,.int .i64 0]) (r2:Row w.heap C ty2 [.int .i64 0,.int .i64 0]) (k:∀w',Chg (fun k=>k=A∨k=C) w w'→Row w'.heap A ty [.int .i64 a0,.int .i64 a1]→Row w'.heap C ty2 [.int .i64 b0,.int .i64 b1]→K w') :
  sto ⟨A,0,none⟩ (.int .i64 a0) w fun w1=>sto (Addr.add ⟨A,0,none⟩ 1) (.int .i64 a1) w1 fun w2=>sto ⟨C,0,none⟩ (.int .i64 b0) w2 fun w3=>sto (Addr.add ⟨C,0,none⟩ 1) (.int .i64 b1) w3 K:=by
 rw [Qaf,Qaf]
 refine Qdb r (by simp) rfl fun w1 c1 r1=>Qdb r1 (by simp) rfl fun w2 c2 r3=>Qdb ((c1.trans c2).row hne.symm r2) (by simp) rfl fun w3 c3 r4=>Qdb r4 (by simp) rfl fun w4 c4 r5=>k _ ?_ ((c3.trans c4).row hne r3) r5
 exact ((c1.trans c2).mono fun _ _ e=>.inl e).trans ((c3.trans c4).mono fun _ _ e=>.inr e)
end
end Core
end Go.Proofs.YtpmicakdjhoafaaGreatDoor
namespace Go.Proofs.YtpmicakdjhoafaaGreatDoor
open Go Go.RowKit
def AC (w:World) (b:Option Addr) (l:Nat) (f:Nat→Nat→Int):Prop:=
 l=0∨∃a,b=some a∧a.block<w.heap.size∧∀i k,i<l→k<7→w.cell? ((a.add (i*7)).add k)=some (.int (if k=6 then .i32 else .i64) (f i k))
section
variable {w w':World} {b:Option Addr} {l:Nat} {f:Nat→Nat→Int}
theorem AC.keep {S:Nat→Prop} (h:AC w b l f) (k:Chg S w w') (hS:∀g,g<w.heap.size→¬S g):AC w' b l f:=by
 refine h.imp id ?_
 rintro ⟨a,rfl,ha,hc⟩
 refine ⟨a,rfl,Nat.lt_of_lt_of_le ha k.size,fun i j hi hj=>?_⟩
 rw [←hc i j hi hj]
 refine Seq.Qys ?_
 rw [Qm9,Qm9]
 exact k.block _ ha (hS _ ha)
theorem AC.nob (h:AC w b l f) (k:Chg Qac w w'):AC w' b l f:=h.keep k (fun _ _ h=>h)
theorem AC.ld (h:AC w b l f) {i:Nat} (hi:i<l) {K:Int→Int→Int→Int→Int→Int→Int→Prop} (k:K (f i 0) (f i 1) (f i 2) (f i 3) (f i 4) (f i 5) (f i 6)):ixS b l (i:Int) 7 fun a=>Qi8 a w K:=by
 rcases h with h0 | ⟨a,rfl,ha,hc⟩
 ·omega
 ·refine ⟨a,rfl,by omega,by omega,?_⟩
  have:(i:Int).toNat=i:=by omega
  rw [this]
  exact ⟨_,hc i 0 hi (by omega),_,hc i 1 hi (by omega),_,hc i 2 hi (by omega),_,hc i 3 hi (by omega),_,hc i 4 hi (by omega),_,hc i 5 hi (by omega),_,hc i 6 hi (by omega),k⟩
end
namespace Core
open Go.Proofs.YtpmicakdjhoafaaGreatDoor.Seq Go.Proofs.YtpmicakdjhoafaaGreatDoor.Cut Go.Proofs.YtpmicakdjhoafaaGreatDoor.Web
section
variable {w₀ w w':World} {b:Bk} {N:Nat} {X:Nat→Prop} {sb:Option Addr} {sl sc:Nat} {f:Nat→Nat→Int}
theorem Qri:dl (fun _=>[]) N=[]:=by
 unfold dl
 exact List.flatMap_eq_nil_iff.2 fun _ _=>rfl
theorem GM.new (h:MR w.heap b N (fun _=>false) (fun _=>[]) (ones (3*N)) (fun _=>none) (fun _=>none) (fun _=>0)):GM w.heap b N (fun _=>false) (fun _=>[]) (ones (3*N)) (fun _=>none) (fun _=>none) (fun _=>0):=by
 obtain ⟨nd,lt,_,al⟩:=h.w.nodup
 have hl:∀e,¬Laid (fun _=>[]) N e:=fun e k=>by unfold Laid at k;rw [Qri] at k;cases k
 refine ⟨h,⟨⟨⟨(by rw [Qri];exact List.nodup_nil),fun d k=>(by rw [Qri] at k;cases k)⟩,fun d k=>(by rw [Qri] at k;cases k)⟩,fun A hA x y k=>?_,nd,fun x hx=>al x hx,lt,fun i p k=>(by cases k),fun i p k=>(by cases k),fun _=>.inl rfl,fun _ k=>k.elim,fun i k=>absurd k (hl i)⟩,fun g f p r _ k=>(by cases k),fun v _ k=>absurd rfl k,fun e k=>absurd k (hl e)⟩
 obtain ⟨i,_,rfl⟩:∃i,i<3*N∧[i]=A:=by simpa [ones] using hA
 have hm:=k.mem
 rw [List.mem_singleton] at hm
 rw [List.mem_singleton] at hm
 rw [hm.1,hm.2]
 exact Qd3 (by rw [Qri];exact List.not_mem_nil)
end
end Core
end Go.Proofs.YtpmicakdjhoafaaGreatDoor
namespace Go.Proofs.YtpmicakdjhoafaaGreatDoor
open Go Go.RowKit
namespace Core
open Go.Proofs.YtpmicakdjhoafaaGreatDoor.Seq Go.Proofs.YtpmicakdjhoafaaGreatDoor.Cut Go.Proofs.YtpmicakdjhoafaaGreatDoor.Web
def V3:Nat→Bool:=upd (upd (upd (fun _=>false) 0 true) 1 true) 2 true
def T1:Nat→List Nat:=lay (fun _=>[]) 0 0 (-1) 1 (-1)
def T2:Nat→List Nat:=lay T1 1 1 1 2 (-1)
def T3:Nat→List Nat:=lay T2 2 2 3 0 0
def T4:Nat→List Nat:=lift T3 3 0
def K1:Nat→Int:=upd (fun _=>0) 0 (1*1048576+(0:Nat))
def K2:Nat→Int:=upd K1 1 (2*1048576+(1:Nat))
def K3:Nat→Int:=upd K2 2 (3*1048576+(2:Nat))
section
variable {w₀ w w':World} {b:Bk} {N v x y:Nat} {lv:Nat→Bool} {tl:Nat→List Nat} {q:List (List Nat)} {B D:Nat→Option (Nat × Nat)} {ky:Nat→Int}
theorem iso (h:∀i p,B i=some p→p.1≠v∧p.2≠v) (k:LK [] B v y):y=v:=by
 induction k with
 | refl=>rfl
 | @step x y _ k ih=>
  subst ih
  rcases k with ⟨_,k,_⟩ | ⟨i,k | k⟩
  ·cases k
  ·exact absurd rfl (h i _ k).1
  ·exact absurd rfl (h i _ k).2
theorem gc_iso (h:∀e,Laid tl N e→og tl N (2*e)≠v∧og tl N (2*e+1)≠v) (k:GC tl N v y):y=v:=by
 induction k with
 | refl=>rfl
 | step _ k ih=>
  subst ih
  obtain ⟨e,he,⟨k,_⟩ | ⟨k,_⟩⟩:=k
  ·exact absurd k.symm (h e he).1
  ·exact absurd k.symm (h e he).2
theorem laid3 {e:Nat} (h:Laid T3 3 e):e=0∨e=1∨e=2:=by
 have:∀d∈dl T3 3,d/2=0∨d/2=1∨d/2=2:=by decide
 have:=this _ h
 omega
theorem laid4 {e:Nat} (h:Laid T4 3 e):e=1∨e=2:=by
 have:∀d∈dl T4 3,d/2=1∨d/2=2:=by decide
 have:=this _ h
 omega
theorem ring3 (h:GM w.heap b 3 lv T3 q B D K3):(B 0).isSome∧(B 1).isSome∧B 2=none:=by
 have l0:Laid T3 3 0:=by unfold Laid;decide
 have l1:Laid T3 3 1:=by unfold Laid;decide
 have l2:Laid T3 3 2:=by unfold Laid;decide
 have o:og T3 3 0=0∧og T3 3 1=1∧og T3 3 2=1∧og T3 3 3=2∧og T3 3 4=2∧og T3 3 5=0:=by decide
 obtain ⟨o0,o1,o2,o3,o4,o5⟩:=o
 have hb:∀i p,B i=some p→(i=0∧p=(0,1))∨(i=1∧p=(1,2))∨(i=2∧p=(2,0)):=fun i p k=>by
  obtain ⟨k1,rfl,_⟩:=h.cb.bB i p k
  rcases laid3 k1 with rfl | rfl | rfl
  ·exact .inl ⟨rfl,by rw [o0,o1]⟩
  ·exact .inr (.inl ⟨rfl,by rw [show 2*1=2 from rfl,o2,o3]⟩)
  ·exact .inr (.inr ⟨rfl,by rw [show 2*2=4 from rfl,o4,o5]⟩)
 have cov:∀{i},Laid T3 3 i→D i=none→(B i).isSome:=fun {i} hi hd=>by
  rcases h.cb.cov i hi with k | k | k
  ·exact k.elim
  ·exact k
  ·rw [hd] at k;cases k
 have ex:∀{i p},D i=some p→B i=none:=fun {i p} k=>(h.cb.ex i).resolve_right (by rw [k];simp)
 have h2:B 2=none:=by
  cases e2:B 2 with
  | none=>rfl
  | some p=>
   exfalso
   have d0:D 0=none:=by
    cases d:D 0 with
    | none=>rfl
    | some r=>
     have b0:=ex d
     have:=h.mm 2 0 p r (fun h=>h) e2 d fun k=>by
      have:=iso (v:=og T3 3 (2*0)) (fun i p' k'=>by
       obtain ⟨i2,k'⟩:=Qdq k'
       rcases hb i p' k' with ⟨rfl,rfl⟩ | ⟨rfl,rfl⟩ | ⟨rfl,rfl⟩
       ·rw [b0] at k';cases k'
       ·rw [show 2*0=0 from rfl,o0];decide
       ·exact absurd rfl i2) k
      rw [show 2*0=0 from rfl,show 0+1=1 from rfl,o0,o1] at this
      cases this
     exact absurd this (by decide)
   have d1:D 1=none:=by
    cases d:D 1 with
    | none=>rfl
    | some r=>
     have b0:=ex d
     have:=h.mm 2 1 p r (fun h=>h) e2 d fun k=>by
      have:=iso (v:=og T3 3 (2*1+1)) (fun i p' k'=>by
       obtain ⟨i2,k'⟩:=Qdq k'
       rcases hb i p' k' with ⟨rfl,rfl⟩ | ⟨rfl,rfl⟩ | ⟨rfl,rfl⟩
       ·rw [show 2*1+1=3 from rfl,o3];decide
       ·rw [b0] at k';cases k'
       ·exact absurd rfl i2) k.symm
      rw [show 2*1+1=3 from rfl,show 2*1=2 from rfl,o2,o3] at this
      cases this
     exact absurd this (by decide)
   obtain ⟨p0,b0⟩:=Option.isSome_iff_exists.1 (cov l0 d0)
   obtain ⟨p1,b1⟩:=Option.isSome_iff_exists.1 (cov l1 d1)
   have e0:p0=(0,1):=by rcases hb 0 p0 b0 with ⟨_,k⟩ | ⟨k,_⟩ | ⟨k,_⟩<;>first | exact k | cases k
   have e1:p1=(1,2):=by rcases hb 1 p1 b1 with ⟨k,_⟩ | ⟨_,k⟩ | ⟨k,_⟩<;>first | exact k | cases k
   have e3:p=(2,0):=by rcases hb 2 p e2 with ⟨k,_⟩ | ⟨k,_⟩ | ⟨_,k⟩<;>first | exact k | cases k
   subst e0 e1 e3
   refine h.cj.fB 2 _ _ e2 ?_
   exact ((LK.te (e:=0) (by rw [Qak _ _ (by decide)];exact b0)).trans (LK.te (e:=1) (by rw [Qak _ _ (by decide)];exact b1))).symm
 refine ⟨?_,?_,h2⟩
 ·cases b0:B 0 with
  | some p=>rfl
  | none=>
   have:=iso (v:=og T3 3 (2*0)) (fun i p' k'=>by
    rcases hb i p' k' with ⟨rfl,rfl⟩ | ⟨rfl,rfl⟩ | ⟨rfl,rfl⟩
    ·rw [b0] at k';cases k'
    ·rw [show 2*0=0 from rfl,o0];decide
    ·rw [h2] at k';cases k') (h.cj.hang l0)
   rw [show 2*0=0 from rfl,show 0+1=1 from rfl,o0,o1] at this
   cases this
 ·cases b0:B 1 with
  | some p=>rfl
  | none=>
   have:=iso (v:=og T3 3 (2*1+1)) (fun i p' k'=>by
    rcases hb i p' k' with ⟨rfl,rfl⟩ | ⟨rfl,rfl⟩ | ⟨rfl,rfl⟩
    ·rw [show 2*1+1=3 from rfl,o3];decide
    ·rw [b0] at k';cases k'
    ·rw [h2] at k';cases k') (h.cj.hang l1).symm
   rw [show 2*1+1=3 from rfl,show 2*1=2 from rfl,o2,o3] at this
   cases this
theorem path3 (h:GM w.heap b 3 lv T4 q B D K3):B 0=none∧(B 1).isSome∧(B 2).isSome:=by
 have l1:Laid T4 3 1:=by unfold Laid;decide
 have l2:Laid T4 3 2:=by unfold Laid;decide
 have o:og T4 3 2=1∧og T4 3 3=2∧og T4 3 4=2∧og T4 3 5=0:=by decide
 obtain ⟨o2,o3,o4,o5⟩:=o
 have hb:∀i p,B i=some p→(i=1∧p=(1,2))∨(i=2∧p=(2,0)):=fun i p k=>by
  obtain ⟨k1,rfl,_⟩:=h.cb.bB i p k
  rcases laid4 k1 with rfl | rfl
  ·exact .inl ⟨rfl,by rw [show 2*1=2 from rfl,o2,o3]⟩
  ·exact .inr ⟨rfl,by rw [show 2*2=4 from rfl,o4,o5]⟩
 refine ⟨?_,?_,?_⟩
 ·cases b0:B 0 with
  | none=>rfl
  | some p=>rcases hb 0 p b0 with ⟨k,_⟩ | ⟨k,_⟩<;>cases k
 ·cases b0:B 1 with
  | some p=>rfl
  | none=>
   have:=iso (v:=og T4 3 (2*1)) (fun i p' k'=>by
    rcases hb i p' k' with ⟨rfl,rfl⟩ | ⟨rfl,rfl⟩
    ·rw [b0] at k';cases k'
    ·rw [show 2*1=2 from rfl,o2];decide) (h.cj.hang l1)
   rw [show 2*1+1=3 from rfl,show 2*1=2 from rfl,o2,o3] at this
   cases this
 ·cases b0:B 2 with
  | some p=>rfl
  | none=>
   have:=iso (v:=og T4 3 (2*2+1)) (fun i p' k'=>by
    rcases hb i p' k' with ⟨rfl,rfl⟩ | ⟨rfl,rfl⟩
    ·rw [show 2*2+1=5 from rfl,o5];decide
    ·rw [b0] at k';cases k') (h.cj.hang l2).symm
   rw [show 2*2+1=5 from rfl,show 2*2=4 from rfl,o4,o5] at this
   cases this
theorem jE_of {e u v:Nat} {be ce:Int} (h0:e<N) (h1:¬Laid tl N e) (h2:k2E lv tl N u be v ce=0) (h3:Lgl tl N u be v ce):jE lv tl N e u be v ce=0:=by
 unfold jE
 rw [if_pos (by omega),Int.toNat_natCast,if_neg h1,if_pos h2,Int.toNat_natCast,Int.toNat_natCast,if_pos h3]
theorem j1:jE V3 (fun _=>[]) 3 (0:Nat) (0:Nat) (-1) (1:Nat) (-1)=0:=
 jE_of (by omega) (by unfold Laid;decide) (by decide) (.inr fun k=>by
  have := gc_iso (v := 0) (fun e he => by have : ∀ d, d ∉ dl (fun _ => []) 3 := by decide
                                          exact absurd he (this _)) k
  cases this)
theorem j2:jE V3 T1 3 (1:Nat) (1:Nat) 1 (2:Nat) (-1)=0:=
 jE_of (by omega) (by unfold Laid;decide) (by decide) (.inr fun k=>by
  have:=gc_iso (v:=2) (fun e he=>by
   have:∀d∈dl T1 3,d/2=0:=by decide
   have:=this _ he
   obtain rfl:e=0:=by omega
   decide) (RT.symm (fun x y ⟨e,he,k⟩=>⟨e,he,k.symm.imp And.symm And.symm⟩) k)
  cases this)
theorem j3:jE V3 T2 3 (2:Nat) (2:Nat) 3 (0:Nat) 0=0:=
 jE_of (by omega) (by unfold Laid;decide) (by decide) (.inl (by
  show PF T2 3 3 0
  have a:PF T2 3 3 1:=RT.one (by decide)
  exact RT.step a (by decide)))
theorem sB3 (h0:(B 0).isSome) (h1:(B 1).isSome) (h2:B 2=none):sB B K3 3=3:=by
 unfold sB
 simp only [sm,h0,h1,h2,Option.isSome_none,if_pos,Bool.false_eq_true,if_false]
 decide
theorem sB4 (h0:B 0=none) (h1:(B 1).isSome) (h2:(B 2).isSome):sB B K3 3=5∧cB B 3=2:=by
 unfold sB cB
 simp only [sm,h0,h1,h2,Option.isSome_none,if_pos,Bool.false_eq_true,if_false]
 decide
theorem cE4:cE T4 3=2:=by
 have l0:¬Laid T4 3 0:=by unfold Laid;decide
 have l1:Laid T4 3 1:=by unfold Laid;decide
 have l2:Laid T4 3 2:=by unfold Laid;decide
 unfold cE
 simp only [sm,if_neg l0,if_pos l1,if_pos l2]
 decide
def SU (w₀ w:World) (b:Bk) (lv:Nat→Bool) (tl:Nat→List Nat) (ky:Nat→Int):Prop:=Chg Qac w₀ w∧(∀k,b.has k→w₀.heap.size≤k)∧∃q B D,GM w.heap b 3 lv tl q B D ky
theorem SU.gs (c:Chg Qac w₀ w) (hl:∀k,b.has k→w₀.heap.size≤k) (g:GS w w' b 3 lv tl q B D ky):SU w₀ w' b lv tl ky:=
 ⟨c.trans' g.c fun k j=>.inr (hl k (Bk.sub j)),hl,_,_,_,g.a⟩
theorem SU.add (v:Nat) (hv:v<3) (hl:lv v=false) (h:SU w₀ w b lv tl ky):Calls Pg Qbk #[.pointer (some ⟨b.M,0,none⟩),.int .i64 (v:Nat)] w fun r w'=>r=.returned (errV 0)∧SU w₀ w' b (upd lv v true) tl ky:=by
 obtain ⟨c,hlo,q,B,D,g⟩:=h
 refine (Qq6 g).mono ?_
 rintro r w' (⟨_,_,_,rfl,gs⟩ | ⟨k,_⟩)
 ·exact ⟨rfl,.gs c hlo gs⟩
 ·exact absurd ⟨by omega,by omega,hl⟩ k
theorem SU.join (e u v:Nat) (be ce z:Int) (hj:jE lv tl 3 e u be v ce=0) (hz:-2147483648≤z∧z≤2147483647) (h:SU w₀ w b lv tl ky) :
  Calls Pg Qcq #[.pointer (some ⟨b.M,0,none⟩),.int .i64 (e:Nat),.agg #[.int .i64 (u:Nat),.int .i64 be],.agg #[.int .i64 (v:Nat),.int .i64 ce],.int .i32 z] w fun r w'=>r=.returned (errV 0)∧SU w₀ w' b lv (lay tl e u be v ce) (upd ky e (z*1048576+e)):=by
 obtain ⟨c,hlo,q,B,D,g⟩:=h
 refine (Qy5 g hz).mono ?_
 rintro r w' ⟨rfl,_,k⟩
 obtain ⟨_,_,_,gs⟩:=k hj
 exact ⟨by rw [hj],.gs c hlo gs⟩
theorem c_sure16:Calls Pg Qii #[] w fun r w'=>r=.returned (.bool true)∧Chg Qac w w':=by
 refine (Qpl _ (fun v' w'=>v'=.bool true∧Chg Qac w w') ?_).mono (by rintro e w' ⟨v,rfl,rfl,k⟩;exact ⟨rfl,k⟩)
 unfold Qlp
 refine (Qwp (N:=3) (by omega) (by omega)).mono ?_
 rintro r w2 ⟨b,rfl,c2,hlo,hmr⟩
 have s0:SU w w2 b (fun _=>false) (fun _=>[]) (fun _=>0):=⟨c2,hlo,_,_,_,GM.new hmr⟩
 refine ⟨_,_,rfl,fun _ w'=>SU w w' b V3 (fun _=>[]) (fun _=>0),Qan (fun e=>absurd rfl e) (fun _=>Qag (fun h=>by cases h) (fun _=>(s0.add 0 (by omega) rfl).mono ?_)),?_⟩
 ·rintro r w3 ⟨rfl,s1⟩
  refine ⟨_,rfl,Qan (fun e=>absurd rfl e) (fun _=>(s1.add 1 (by omega) (by decide)).mono ?_)⟩
  rintro r w4 ⟨rfl,s2⟩
  refine ⟨_,rfl,Qan (fun e=>absurd rfl e) (fun _=>(s2.add 2 (by omega) (by decide)).mono ?_)⟩
  rintro r w5 ⟨rfl,s3⟩
  exact ⟨_,rfl,Qan (fun e=>absurd rfl e) (fun _=>s3)⟩
 rintro _ w6 s3
 refine ⟨fun _ w'=>SU w w' b V3 T3 K3,(SU.join 0 0 1 (-1) (-1) 1 j1 (by omega) s3).mono ?_,?_⟩
 ·rintro r w3 ⟨rfl,s1⟩
  refine ⟨_,rfl,Qan (fun e=>absurd rfl e) (fun _=>(SU.join 1 1 2 1 (-1) 2 j2 (by omega) s1).mono ?_)⟩
  rintro r w4 ⟨rfl,s2⟩
  refine ⟨_,rfl,Qan (fun e=>absurd rfl e) (fun _=>(SU.join 2 2 0 3 0 3 j3 (by omega) s2).mono ?_)⟩
  rintro r w5 ⟨rfl,s3⟩
  exact ⟨_,rfl,Qan (fun e=>absurd rfl e) (fun _=>s3)⟩
 rintro _ w7 ⟨c7,_,q,B,D,g⟩
 obtain ⟨b0,b1,b2⟩:=ring3 g
 refine (x_Sum g).mono ?_
 rintro r w8 ⟨rfl,rfl⟩
 refine ⟨_,rfl,(Qvv (e:=2) g).mono ?_⟩
 rintro r w9 ⟨rfl,z,rfl,_,hz⟩
 have e2:eE T3 3 2=0:=eE_of (e:=2) (by omega) (by unfold Laid;decide)
 have hz:=hz e2
 rw [e2]
 rw [show (2:Int).toNat=2 from rfl,b2] at hz
 subst hz
 rw [sB3 b0 b1 b2]
 refine ⟨_,_,rfl,Qag (fun _=>err_j (fun _=>Qag (fun _=>(Qy4 (e:=0) g).mono ?_) fun h=>by cases h) fun e=>absurd rfl e) fun h=>by cases h⟩
 rintro r w10 ⟨rfl,_,k⟩
 have e0:eE T3 3 0=0:=eE_of (e:=0) (by omega) (by unfold Laid;decide)
 obtain ⟨q',B',D',gs,_⟩:=k e0
 rw [e0]
 have c10:Chg Qac w w10:=c7.trans' gs.c fun k j=>.inr (hlo k (Bk.sub j))
 obtain ⟨b0,b1,b2⟩:=path3 gs.a
 obtain ⟨e5,e6⟩:=sB4 b0 b1 b2
 refine ⟨_,rfl,err_j (fun _=>(x_Sum gs.a).mono ?_) fun e=>absurd rfl e⟩
 rintro r w11 ⟨rfl,rfl⟩
 rw [e5]
 refine ⟨_,rfl,Qag (fun _=>(Qwu gs.a.toMR).mono ?_) fun h=>by cases h⟩
 rintro r w12 ⟨rfl,c12⟩
 have eV:cV V3 3=3:=by decide
 rw [e6,eV,show lift T3 3 (0:Int).toNat=T4 from rfl,cE4]
 refine ⟨_,_,_,_,rfl,_,_,(Qv5 (k:=.i64) (offs:=[0,1,2,3]) (X:=fun o=>if o=0 then 3 else if o=1 then 2 else 1) (Y:=fun o=>if o=0 then 3 else if o=1 then 2 else 1) (by kernel_rfl) (by kernel_rfl) (by kernel_rfl) (by kernel_rfl) (by kernel_rfl) ?_).1,?_⟩
 ·intro o ho
  simp only [List.mem_cons,List.not_mem_nil,or_false] at ho
  rcases ho with rfl | rfl | rfl | rfl<;>exact ⟨rfl,rfl⟩
 ·exact ⟨rfl,c10.trans c12⟩
end
end Core
end Go.Proofs.YtpmicakdjhoafaaGreatDoor
namespace Go.Proofs.YtpmicakdjhoafaaGreatDoor
open Go Go.RowKit
namespace Core
open Go.Proofs.YtpmicakdjhoafaaGreatDoor.Seq Go.Proofs.YtpmicakdjhoafaaGreatDoor.Cut Go.Proofs.YtpmicakdjhoafaaGreatDoor.Web
section
variable {w₀ w w':World} {b:Bk} {N:Nat} {lv lv':Nat→Bool} {tl tl':Nat→List Nat} {q q':List (List Nat)} {B D B' D':Nat→Option (Nat × Nat)} {ky ky':Nat→Int}
theorem Qta {d:Int} (h:dE tl N d=0):∃x:Nat,d=x∧x∈dl tl N:=by
 unfold dE at h
 split at h
 ·refine ⟨d.toNat,by omega,?_⟩
  split at h
  ·assumption
  ·cases h
 ·cases h
theorem Qy2 {d:Int} (h:GM w.heap b N lv tl q B D ky):Calls Pg Qdx #[.pointer (some ⟨b.M,0,none⟩),.int .i64 d] w fun r w'=>r=.returned (errV (dE tl N d))∧Chg Qac w w':=by
 refine (Qrs _ _ _ (fun v' w'=>v'=errV (dE tl N d)∧Chg Qac w w') ?_).mono (by rintro e w' ⟨v,rfl,rfl,k⟩;exact ⟨rfl,k⟩)
 unfold Qn5
 refine Qag (fun k=>by cases k) fun _=>pt_i ?_
 rw [Qaf]
 refine Qa7 h.r rfl ?_
 by_cases hd:dE tl N d=0
 ·obtain ⟨x,rfl,hx⟩:=Qta hd
  refine (Qtv h.t hx).mono ?_
  rintro r w4 ⟨rfl,c⟩
  exact ⟨_,_,rfl,by rw [hd],c⟩
 ·refine (Qti h.t hd).mono ?_
  rintro r w4 ⟨rfl,c⟩
  exact ⟨_,_,rfl,rfl,c⟩
end
end Core
end Go.Proofs.YtpmicakdjhoafaaGreatDoor
