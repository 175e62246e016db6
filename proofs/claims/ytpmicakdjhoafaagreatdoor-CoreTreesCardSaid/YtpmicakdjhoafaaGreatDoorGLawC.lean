/-
What the laws' own helpers of layer 16 make: an error's number, lists compared.
Conditions: the package variable of errors is laid out.
-/
import Derived.Test.YtpmicakdjhoafaaGreatDoorGLaw
import Derived.Test.YtpmicakdjhoafaaGreatDoorShPlaitlaw16
import Derived.Test.YtpmicakdjhoafaaGreatDoorGRefC
import Derived.Test.YtpmicakdjhoafaaGreatDoorGCoreC
set_option linter.unusedVariables false
set_option linter.unusedSimpArgs false
namespace Go.Proofs.YtpmicakdjhoafaaGreatDoor
open Go
namespace Seq
theorem c_num16 {w:World} {c:Int} (hg:LaidG w):Calls Pg Qbt #[errV c] w fun e w'=>e=.returned (.int .i64 c)∧Chg Qac w w':=by
 refine (Qp7 _ _ (fun v' w'=>v'=.int .i64 c∧Chg Qac w w') ?_).mono (by rintro e w' ⟨v,rfl,rfl,k⟩;exact ⟨rfl,k⟩)
 unfold Qmb
 refine Qa7 fun ha=>?_
 refine ⟨Qic c,?_⟩
 rw [Qib]
 refine Qag (fun h=>?_) (fun h=>?_)
 ·simp only [decide_eq_true_eq] at h
  exact ⟨by rw [h],(Chg.refl _ _).alloc _⟩
 ·simp only [decide_eq_false_iff_not] at h
  rw [errV_ne h]
  refine (as_hit c ⟨w.heap.size,0,none⟩ (.int .i64 0) _ (hg.alloc _) (by rw [ha.cell];rfl) (ha.frozen 0)).mono ?_
  rintro e w' ⟨rfl,rfl⟩
  refine ⟨_,rfl,?_⟩
  have hA:=(((ha.alloc (.cells #[.pointer (some ⟨w.heap.size,0,none⟩)] Qjx)).alloc (.cells #[.pointer (some ⟨1,Qjx,none⟩),.pointer (some ⟨(w.alloc (.cells #[.int .i64 0] Qah)).heap.size,0,none⟩),.int .u64 150] Qki)).alloc (.cells #[.pointer (some ⟨1,Qjx,none⟩),.pointer (some ⟨(w.alloc (.cells #[.int .i64 0] Qah)).heap.size,0,none⟩),.int .u64 150] Qki)).alloc (.cells #[.int .i64 c] Qah)
  refine Qag (fun _=>?_) (fun h=>by cases h)
  refine Qak (hA.set 0 (.int .i64 c)) rfl ?_
  exact ⟨rfl,(((((Chg.refl Qac w).alloc _).alloc _).alloc _).alloc _ |>.alloc _).setCell _ _ (.inr (Nat.le_refl _))⟩
end Seq
end Go.Proofs.YtpmicakdjhoafaaGreatDoor
namespace Go.Proofs.YtpmicakdjhoafaaGreatDoor
open Go Go.RowKit
namespace Core
open Go.Proofs.YtpmicakdjhoafaaGreatDoor.Seq Go.Proofs.YtpmicakdjhoafaaGreatDoor.Cut Go.Proofs.YtpmicakdjhoafaaGreatDoor.Web
structure LX (X:Nat→Prop) (w₀ w:World) (b:Bk) (N:Nat) (lv:Nat→Bool) (tl:Nat→List Nat) (q:List (List Nat)) (B D:Nat→Option (Nat × Nat)) (ky W:Nat→Int) (lb tb wb:Option Addr):Prop where
 c:Chg Qac w₀ w
 lo:∀k,b.has k→w₀.heap.size≤k
 a:GM w.heap b N lv tl q B D ky
 x:XR w (fun k=>b.ch k∨X k) N lv tl W lb tb wb
 xl:∀k,X k→w₀.heap.size≤k∧k<w.heap.size
 xo:∀k,X k→¬b.has k
 k:∀e,Laid tl N e→ky e=W e*1048576+e
section
variable {w₀ w w':World} {b:Bk} {lb tb wb sb:Option Addr} {lc tc wc' sl sc N d:Nat} {bad X:Nat→Prop} {be ce er:Int} {lv lv':Nat→Bool} {tl tl':Nat→List Nat} {ky ky' W W':Nat→Int} {q q':List (List Nat)} {B B' D D':Nat→Option (Nat × Nat)}
theorem jE_0 {e u v:Int} (h:jE lv tl N e u be v ce=0):u.toNat<N∧v.toNat<N:=by
 unfold jE at h
 split at h
 ·split at h
  ·cases h
  ·split at h
   ·rename_i k
    unfold k2E at k
    split at k
    ·rename_i k0
     obtain ⟨x,rfl,hx,_⟩:=kE_0 k0
     obtain ⟨y,rfl,hy,_⟩:=kE_0 k
     exact ⟨hx,hy⟩
    ·contradiction
   ·contradiction
 ·cases h
theorem Bk.sub {k:Nat} (h:b.ch k):b.has k:=by
 unfold Bk.ch at h
 unfold Bk.has
 rcases h with rfl | rfl | rfl | (rfl | rfl | rfl) | (rfl | rfl | rfl) | rfl<;>simp
theorem MX.lowA {E:Int} (h:MX w.heap b N lv tl q B D ky E) (k:Nat) (hk:b.has k):k<w.heap.size:=by
 obtain ⟨t1,t2,t3,t4⟩:=h.t.lt
 obtain ⟨_,f,_⟩:=h.w.f
 obtain ⟨_,g,_⟩:=h.f
 unfold Bk.has at hk
 rcases hk with rfl | rfl | rfl | (rfl | rfl | rfl | rfl) | (rfl | rfl | rfl | rfl | rfl | rfl | rfl) | rfl | rfl
 ·exact h.r.lt
 ·exact h.v.lt
 ·exact h.k.lt
 ·exact t1
 ·exact t2
 ·exact t3
 ·exact t4
 ·exact h.w.r.lt
 ·exact h.w.a.r.lt
 ·exact h.w.a.a.lt.1
 ·exact h.w.a.a.lt.2
 ·exact f.lt.1
 ·exact f.lt.2
 ·exact h.w.e.lt
 ·exact g.lt.1
 ·exact g.lt.2
theorem LX.nob (h:LX X w₀ w b N lv tl q B D ky W lb tb wb) (c:Chg Qac w w'):LX X w₀ w' b N lv tl q B D ky W lb tb wb:=⟨h.c.trans c,h.lo,(h.a.nob c).a,h.x.nob c,fun k j=>⟨(h.xl k j).1,Nat.lt_of_lt_of_le (h.xl k j).2 c.size⟩,h.xo,h.k⟩
theorem LX.low (h:LX X w₀ w b N lv tl q B D ky W lb tb wb):∀k,b.ch k∨X k→k<w.heap.size:=fun k j=>j.elim (h.a.toMR.x.low k) fun j=>(h.xl k j).2
theorem LX.sz (h:LX X w₀ w b N lv tl q B D ky W lb tb wb):1≤N∧N≤1048576:=h.a.sz
theorem LX.put (h:LX X w₀ w b N lv tl q B D ky W lb tb wb) (c:Chg X w w'):LX X w₀ w' b N lv tl q B D ky W lb tb wb:=
 ⟨h.c.trans' c fun k j=>.inr (h.xl k j).1,h.lo,h.a.keep c h.xo,h.x.keep c fun _ j=>.inr j,fun k j=>⟨(h.xl k j).1,Nat.lt_of_lt_of_le (h.xl k j).2 c.size⟩,h.xo,h.k⟩
theorem c_corner {p r:Int} {z:Bool} (h:XR w bad N lv tl W lb tb wb) (nd:ND N tl) (hN:N≤1048576):Calls Pg Qaq #[mV N lb lc tb tc wb wc',.agg #[.int .i64 p,.int .i64 r],.bool z] w fun e w'=>∃x y,e=.returned (.agg #[.int .i64 x,.int .i64 y])∧Chg Qac w w':=by
 refine (Qm6 _ _ _ _ _ _ _ _ _ _ _ _ _ _ _ (fun v' w'=>∃x y,v'=.agg #[.int .i64 x,.int .i64 y]∧Chg Qac w w') ?_).mono (by rintro e w' ⟨v,rfl,x,y,rfl,k⟩;exact ⟨x,y,rfl,k⟩)
 unfold Qjp
 refine Qa3 fun A1 w1 hA1 c1 r1=>Qa3 fun A2 w2 hA2 c2 r2=>Qa3 fun A3 w3 hA3 c3 r3=>?_
 have cc:=(c1.trans c2).trans c3
 have q1:=(c2.trans c3).row (fun h=>h) r1
 have q2:=c3.row (fun h=>h) r2
 have s1:=c1.size
 have s2:=c2.size
 refine Qjf q1 ((r_Vertices (h.nob cc) hN).mono ?_)
 rintro e w4 ⟨V,rfl,c4,vb,vc,rfl,hv,_,_⟩
 have p1:=c4.row (fun h=>h) q1
 have p2:=c4.row (fun h=>h) q2
 have p3:=c4.row (fun h=>h) r3
 have h4:=h.nob (cc.trans c4)
 have out:∀{x y:Int} {w5:World},Chg Qac w w5→Row w5.heap A3 Qbl [.int .i64 0,.int .i64 0]→sto ⟨A3,0,none⟩ (.int .i64 x) w5 fun w6=>sto (Addr.add ⟨A3,0,none⟩ 1) (.int .i64 y) w6 fun w7=>ldI .i64 ⟨A3,0,none⟩ w7 fun n=>ldI .i64 (Addr.add ⟨A3,0,none⟩ 1) w7 fun m=>∃x y,(Value.agg #[.int .i64 n,.int .i64 m])=.agg #[.int .i64 x,.int .i64 y]∧Chg Qac w w7:=fun {x y w5} k r=>by
  rw [Qaf]
  exact Qdg r (by simp) rfl fun w6 c6 r6=>Qdg r6 (by simp) rfl fun w7 c7 r7=>Qak (n:=x) r7 rfl (Qak (n:=y) r7 rfl ⟨_,_,rfl,k.trans' (c6.trans c7) fun i e=>.inr (by omega)⟩)
 refine ⟨_,_,_,rfl,fun _ w'=>w'=w4∧(List.filter lv (List.range N)).length≠0,Qag (fun _=>?_) (fun _=>Qag (fun _=>?_) (fun k=>⟨rfl,?_⟩)),?_⟩
 ·exact Qak (n:=p) p2 rfl (Qak (n:=r) p2 rfl (out (cc.trans c4) p3))
 ·exact Qak (n:=p) p2 rfl (Qak (n:=r) p2 rfl (out (cc.trans c4) p3))
 ·simp only [b1s] at k;omega
 rintro _ w5 ⟨rfl,hne⟩
 have hll:(List.filter lv (List.range N)).length≤N:=by
  have:=List.length_filter_le lv (List.range N)
  rwa [List.length_range] at this
 obtain ⟨hz,i,hi,e1⟩:=idx_ex p (show 0<(List.filter lv (List.range N)).length by omega) (by omega)
 refine Qkd (i:=0) (by omega) (Qak (n:=p) p2 rfl ⟨hz,?_⟩)
 rw [e1]
 obtain ⟨v,hvx⟩:∃v,(List.filter lv (List.range N))[i]?=some v:=⟨_,List.getElem?_eq_getElem hi⟩
 have hvN:v<N:=List.mem_range.1 (List.mem_filter.1 (List.mem_of_getElem? hvx)).1
 refine rdI hv hvx ?_
 rw [Qaf,Qaf]
 refine Qa8 p1 rfl (h4.t.rd hvN fun eb ec k1 k2 k3=>Qag (fun k=>out (cc.trans c4) p3) (fun k=>?_))
 have c6:=(Chg.refl Qac w5).drew
 have h6:=h4.nob c6
 have m1:=c6.row (fun h=>h) p1
 have m2:=c6.row (fun h=>h) p2
 have m3:=c6.row (fun h=>h) p3
 have c7:=(cc.trans c4).trans c6
 generalize w5.drew=w6 at *
 have hlen:=Qwl nd hvN
 have hpos:0<(tl v).length:=by simp only [b1s] at k;omega
 refine Qa8 m1 rfl (h6.t.rd hvN fun eb2 ec2 j1 j2 j3=>Qkd (i:=1) (by omega) (Qak (n:=r) m2 rfl (Qa8 m1 rfl (h6.t.rd hvN fun eb3 ec3 i1 i2 i3=>?_))))
 obtain ⟨hz2,j,hj,e2⟩:=idx_ex r hpos (by omega)
 refine ⟨hz2,?_⟩
 rw [e2]
 exact rdI j1 (List.getElem?_eq_getElem hj) (out c7 m3)
theorem do_tail {R:Value→World→Prop} {A A2:Nat} {ty ty2:TypeId} {cs:List Value} (hg:LaidG w) (r:Row w.heap A ty [.int .i64 (N:Nat),.slice lb N lc,.int .i64 (N:Nat),.slice tb N tc,.slice wb N wc']) (r2:Row w.heap A2 ty2 cs) (hl:cs.length=5) (k:∀w1 w2,Chg Qac w w1→Chg (·=A2) w1 w2→R (.tuple #[mV N lb lc tb tc wb wc',.bool true]) w2) :
  kps w ⟨A,0,none⟩ 0 [.int .i64 (N:Nat),.slice lb N lc,.int .i64 (N:Nat),.slice tb N tc,.slice wb N wc'] (Calls Pg Qbt #[errV er] w fun e w1=>∃n,e=.returned (.int .i64 n)∧kps w1 ⟨A,0,none⟩ 0 [.int .i64 (N:Nat),.slice lb N lc,.int .i64 (N:Nat),.slice tb N tc,.slice wb N wc']
   (sts ⟨A2,0,none⟩ 0 [.int .i64 (N:Nat),.slice lb N lc,.int .i64 (N:Nat),.slice tb N tc,.slice wb N wc'] w1 fun w2=>Qaa ⟨A2,0,none⟩ w2 fun x0 xb xl xc x1 yb yl yc zb zl zc=>R (.tuple #[.agg #[.int .i64 x0,.slice xb xl xc,.int .i64 x1,.slice yb yl yc,.slice zb zl zc],.bool (n==er)]) w2)):=by
 refine kps_r r ((c_num16 hg).mono ?_)
 rintro e w1 ⟨rfl,c1⟩
 refine ⟨_,rfl,kps_r (c1.row (fun h=>h) r) (cpM2 (c1.row (fun h=>h) r2) hl fun w2 c2=>?_)⟩
 have:=k w1 w2 c1 c2
 rwa [show (er==er)=true by simp]
theorem lf {A C:Nat} {ty ty2:TypeId} {a0 a1 b0 b1:Int} {K:World→Prop} (hne:A≠C) (r:Row w.heap A ty [.int .i64 0,.int .i64 0]) (r2:Row w.heap C ty2 [.int .i64 0,.int .i64 0]) (k:∀w',Chg (fun k=>k=A∨k=C) w w'→Row w'.heap A ty [.int .i64 a0,.int .i64 a1]→Row w'.heap C ty2 [.int .i64 b0,.int .i64 b1]→K w') :
  sto ⟨A,0,none⟩ (.int .i64 a0) w fun w1=>sto (Addr.add ⟨A,0,none⟩ 1) (.int .i64 a1) w1 fun w2=>sto ⟨C,0,none⟩ (.int .i64 b0) w2 fun w3=>sto (Addr.add ⟨C,0,none⟩ 1) (.int .i64 b1) w3 K:=by
 rw [Qaf,Qaf]
 refine Qdg r (by simp) rfl fun w1 c1 r1=>Qdg r1 (by simp) rfl fun w2 c2 r3=>Qdg ((c1.trans c2).row hne.symm r2) (by simp) rfl fun w3 c3 r4=>Qdg r4 (by simp) rfl fun w4 c4 r5=>k _ ?_ ((c3.trans c4).row hne r3) r5
 exact ((c1.trans c2).mono fun _ _ e=>.inl e).trans ((c3.trans c4).mono fun _ _ e=>.inr e)
def DoR (X:Nat→Prop) (w₀ w:World) (b:Bk) (N:Nat) (v:Value) (w':World):Prop:=Chg b.ch w w'∧∃lb lc tb tc wb wc' lv tl q B D ky W,v=.tuple #[mV N lb lc tb tc wb wc',.bool true]∧LX X w₀ w' b N lv tl q B D ky W lb tb wb
theorem c_do {n6 n7 n8 n9 n10 n11 n12:Int} (hg:LaidG w₀) (h:LX X w₀ w b N lv tl q B D ky W lb tb wb) (hw:-2147483648≤n12∧n12≤2147483647) :
  Calls Pg Qg1 #[.pointer (some ⟨b.M,0,none⟩),mV N lb lc tb tc wb wc',.agg #[.int .i64 n6,.int .i64 n7,.int .i64 n8,.int .i64 n9,.int .i64 n10,.int .i64 n11,.int .i32 n12]] w fun r w'=>∃v,r=.returned v∧DoR X w₀ w b N v w':=by
 refine (Qq0 _ _ _ _ _ _ _ _ _ _ _ _ _ _ _ _ _ _ _ _ (fun v' w'=>DoR X w₀ w b N v' w') ?_).mono (fun e w' k=>k)
 unfold Qnf
 have hsz:=h.sz
 refine Qa3 fun A1 w1 hA1 c1 r1=>Qa3 fun A2 w2 hA2 c2 r2=>Qa3 fun A3 w3 hA3 c3 r3=>?_
 have cc:=(c1.trans c2).trans c3
 have q1:=(c2.trans c3).row (fun h=>h) r1
 have q2:=c3.row (fun h=>h) r2
 have s1:=c1.size
 have s2:=c2.size
 have s3:=c3.size
 have l3:=r3.lt
 have hm:=h.nob cc
 have hx3:XR w3 (fun k=>(b.ch k∨X k)∨(w.heap.size≤k∧k<w3.heap.size)) N lv tl W lb tb wb:=(h.x.old (n:=w3.heap.size)).nob cc
 have hbad3:∀{w5:World},w3.heap.size≤w5.heap.size→∀k,((b.ch k∨X k)∨(w.heap.size≤k∧k<w3.heap.size))→k<w5.heap.size:=fun hs=>Qr7 h.low (by omega) (by omega)
 have hlow:=h.low
 have hlo:=h.lo
 have s0:=h.c.size
 have hp0:=hg.pos
 have nd:=h.a.cb.mp.toND
 have hfr:∀{A},w.heap.size≤A→¬b.ch A:=fun k j=>Nat.lt_irrefl _ (Nat.lt_of_lt_of_le (hlow _ (.inl j)) k)
 have h0c:∀{k},b.ch k→¬k=0:=fun j e=>by have:=hlo _ (Bk.sub j);omega
 have fin:∀{er:Int} {w5 w6:World} {A4:Nat} {lb' tb' wb':Option Addr} {lc' tc' wc'':Nat} {lv':Nat→Bool} {tl':Nat→List Nat} {q':List (List Nat)} {B' D':Nat→Option (Nat × Nat)} {ky' W':Nat→Int},Chg Qac w3 w5→w3.heap.size≤A4→
   XR w5 (fun k=>(b.ch k∨X k)∨(w.heap.size≤k∧k<w3.heap.size)) N lv' tl' W' lb' tb' wb'→Row w5.heap A4 Qal [.int .i64 (N:Nat),.slice lb' N lc',.int .i64 (N:Nat),.slice tb' N tc',.slice wb' N wc'']→GS w5 w6 b N lv' tl' q' B' D' ky'→(∀e,Laid tl' N e→ky' e=W' e*1048576+e)→
   kps w6 ⟨A4,0,none⟩ 0 [.int .i64 (N:Nat),.slice lb' N lc',.int .i64 (N:Nat),.slice tb' N tc',.slice wb' N wc''] (Calls Pg Qbt #[errV er] w6 fun e w1=>∃n,e=.returned (.int .i64 n)∧kps w1 ⟨A4,0,none⟩ 0 [.int .i64 (N:Nat),.slice lb' N lc',.int .i64 (N:Nat),.slice tb' N tc',.slice wb' N wc'']
   (sts ⟨A3,0,none⟩ 0 [.int .i64 (N:Nat),.slice lb' N lc',.int .i64 (N:Nat),.slice tb' N tc',.slice wb' N wc''] w1 fun w2=>Qaa ⟨A3,0,none⟩ w2 fun x0 xb xl xc x1 yb yl yc zb zl zc=>DoR X w₀ w b N (.tuple #[.agg #[.int .i64 x0,.slice xb xl xc,.int .i64 x1,.slice yb yl yc,.slice zb zl zc],.bool (n==er)]) w2)):=by
  intro er w5 w6 A4 lb' tb' wb' lc' tc' wc'' lv' tl' q' B' D' ky' W' c5 hA4 hx r4 gs hk
  have c35:Chg Qac w₀ w5:=hm.c.trans c5
  have c06:Chg Qac w₀ w6:=c35.trans' gs.c fun k j=>.inr (hlo k (Bk.sub j))
  have s5:=c5.size
  refine do_tail (hg.chg c06 fun h=>h) (gs.c.row (hfr (by omega)) r4) (gs.c.row (hfr (by omega)) (c5.row (fun h=>h) r3)) rfl fun w8 w9 c8 c9=>?_
  have s6:=gs.c.size
  have s8:=c8.size
  refine ⟨(((cc.trans c5).weak.trans gs.c).trans c8.weak).trans' c9 fun i e=>.inr (by omega),_,_,_,_,_,_,lv',tl',q',B',D',ky',W',rfl,(c06.trans c8).trans' c9 fun i e=>.inr (by omega),hlo,?_,?_,?_,h.xo,hk⟩
  ·refine (gs.a.nob c8).a.keep c9 fun i e j=>?_
   subst e
   have:=h.a.toMR.x.lowA i j
   omega
  ·exact (((hx.keep gs.c fun _ k=>.inl (.inl k)).nob c8).keep c9 fun i e=>.inr (by omega)).weak fun k hk=>.inl hk
  ·exact fun k j=>⟨(h.xl k j).1,by have:=(h.xl k j).2;have:=c9.size;omega⟩
 have mid:∀{w5:World} {lb' tb' wb':Option Addr} {lc' tc' wc'':Nat} {lv':Nat→Bool} {tl':Nat→List Nat} {W':Nat→Int} {K:Int→Option Addr→Nat→Nat→Int→Option Addr→Nat→Nat→Option Addr→Nat→Nat→Addr→World→Prop},Chg Qac w3 w5→
   XR w5 (fun k=>(b.ch k∨X k)∨(w.heap.size≤k∧k<w3.heap.size)) N lv' tl' W' lb' tb' wb'→
   (∀w6 A4,Chg Qac w5 w6.drew→Chg Qac w3 w6.drew→w3.heap.size≤A4→XR w6.drew (fun k=>(b.ch k∨X k)∨(w.heap.size≤k∧k<w3.heap.size)) N lv' tl' W' lb' tb' wb'→Row w6.drew.heap A4 Qal [.int .i64 (N:Nat),.slice lb' N lc',.int .i64 (N:Nat),.slice tb' N tc',.slice wb' N wc'']→K (N:Nat) lb' N lc' (N:Nat) tb' N tc' wb' N wc'' ⟨A4,0,none⟩ w6)→
   alo #[.int .i64 0,.slice none 0 0,.int .i64 0,.slice none 0 0,.slice none 0 0] Qal w5 fun a34 w35=>sts a34 0 [.int .i64 (N:Nat),.slice lb' N lc',.int .i64 (N:Nat),.slice tb' N tc',.slice wb' N wc''] w35 fun w36=>Qaa a34 w36.drew fun n xb xl xc m yb yl yc zb zl zc=>K n xb xl xc m yb yl yc zb zl zc a34 w36:=by
  intro w5 lb' tb' wb' lc' tc' wc'' lv' tl' W' K c5 hx kk
  refine Qa3 fun A4 w6 hA4 c6 r6=>Qsb r6 rfl (by simp [oneC]) fun w7 c7 r7=>?_
  have s5:=c5.size
  have s6:=c6.size
  have l6:=r6.lt
  have c8:=(Chg.refl Qac w7).drew
  have c7:Chg (·=A4) w6 w7:=c7
  have c78:Chg (fun k=>w5.heap.size≤k∧k<w6.heap.size) w6 w7.drew:=(c7.mono (T:=fun k=>w5.heap.size≤k∧k<w6.heap.size) fun i _ e=>by omega).trans c8.weak
  have hx2:XR w7.drew (fun k=>(b.ch k∨X k)∨(w.heap.size≤k∧k<w3.heap.size)) N lv' tl' W' lb' tb' wb':=(((hx.old (n:=w6.heap.size)).nob c6).keep c78 fun i e=>.inr e).weak fun k hk=>.inl hk
  exact Qjf (c8.row (fun h=>h) r7) (kk _ _ (c6.trans' c78 fun i e=>.inr e.1) ((c5.trans c6).trans' c78 fun i e=>.inr (by omega)) (by omega) hx2 (c8.row (fun h=>h) r7))
 have one:∀{er:Int} {V:Value} {w4 w5:World} {lv':Nat→Bool} {tl':Nat→List Nat} {W':Nat→Int},AcR w4 (fun k=>(b.ch k∨X k)∨(w.heap.size≤k∧k<w3.heap.size)) N er lv lv' tl tl' W W' V w5→∃lb' tb' wb' lc' tc' wc'' lv1 tl1 W1,V=.tuple #[mV N lb' lc' tb' tc' wb' wc'',.int .i64 er]∧Chg Qac w4 w5∧XR w5 (fun k=>(b.ch k∨X k)∨(w.heap.size≤k∧k<w3.heap.size)) N lv1 tl1 W1 lb' tb' wb'∧((er≠0∧lv1=lv∧tl1=tl∧W1=W)∨(er=0∧lv1=lv'∧tl1=tl'∧W1=W')):=by
  rintro er V w4 w5 lv' tl' W' ⟨lb',lc',tb',tc',wb',wc'',rfl,k,x1,x2⟩
  by_cases he:er=0
  ·exact ⟨_,_,_,_,_,_,_,_,_,rfl,k,x2 he,.inr ⟨he,rfl,rfl,rfl⟩⟩
  ·exact ⟨_,_,_,_,_,_,_,_,_,rfl,k,x1 he,.inl ⟨he,rfl,rfl,rfl⟩⟩
 have hk0:=h.k
 refine Qak (n:=n6) q2 rfl ⟨by omega,Qag (fun _=>?_) fun _=>Qag (fun _=>?_) fun _=>Qag (fun _=>?_) fun _=>Qag (fun _=>?_) fun _=>?_⟩
 ·rw [Qaf]
  refine Qjf q1 (Qak (n:=n7) q2 rfl ((Qx0 hx3 hsz.2 (hbad3 (Nat.le_refl _))).mono ?_))
  rintro r w5 ⟨_,rfl,hac⟩
  obtain ⟨lb',tb',wb',lc',tc',wc'',lv1,tl1,W1,rfl,c5,hx5,hor⟩:=one hac
  refine ⟨_,_,_,_,_,_,_,_,_,_,_,_,rfl,mid c5 hx5 fun w6 A4 _ c6 hA4 hx6 r4=>Qak (n:=n7) (c6.row (fun h=>h) q2) rfl ((Qtj (hm.a.nob c6).a).mono ?_)⟩
  rintro r w7 (⟨k1,k2,k3,rfl,gs⟩ | ⟨k1,rfl,rfl⟩)
  ·have e0:aE lv N n7=0:=aE_0.2 ⟨k1,k2,k3⟩
   obtain ⟨j,_⟩ | ⟨_,rfl,rfl,rfl⟩:=hor
   ·exact absurd e0 j
   ·rw [e0];exact ⟨_,rfl,fin c6 hA4 hx6 r4 gs hk0⟩
  ·obtain ⟨_,rfl,rfl,rfl⟩ | ⟨j,_⟩:=hor
   ·rw [aE_n k1];exact ⟨_,rfl,fin c6 hA4 hx6 r4 (hm.a.nob c6).a.start hk0⟩
   ·exact absurd (aE_0.1 j) k1
 ·rw [Qaf]
  refine Qjf q1 (Qak (n:=n7) q2 rfl ((Qwq hx3 nd hsz.2 (hbad3 (Nat.le_refl _))).mono ?_))
  rintro r w5 ⟨_,rfl,hac⟩
  obtain ⟨lb',tb',wb',lc',tc',wc'',lv1,tl1,W1,rfl,c5,hx5,hor⟩:=one hac
  refine ⟨_,_,_,_,_,_,_,_,_,_,_,_,rfl,mid c5 hx5 fun w6 A4 _ c6 hA4 hx6 r4=>Qak (n:=n7) (c6.row (fun h=>h) q2) rfl ((Qwc (hm.a.nob c6).a).mono ?_)⟩
  rintro r w7 ⟨rfl,k1,k2⟩
  obtain ⟨j,rfl,rfl,rfl⟩ | ⟨j,rfl,rfl,rfl⟩:=hor
  ·obtain rfl:=k1 j
   exact ⟨_,rfl,fin c6 hA4 hx6 r4 (hm.a.nob c6).a.start hk0⟩
  ·exact ⟨_,rfl,fin c6 hA4 hx6 r4 (k2 j) hk0⟩
 ·have c4:Chg Qac w3 w3.drew:=(Chg.refl Qac w3).drew
  generalize w3.drew=w4 at *
  refine ⟨fun vs w'=>∃P Q p0 p1 q0 q1,vs=[.pointer (some ⟨P,0,none⟩),.pointer (some ⟨Q,0,none⟩)]∧Row w'.heap P Qbl [.int .i64 p0,.int .i64 p1]∧Row w'.heap Q Qbl [.int .i64 q0,.int .i64 q1]∧Chg Qac w3 w',?_,?_⟩
  ·have cor:∀{w5:World} {x y:Int} {z:Bool} {K:Int→Int→World→Prop},Chg Qac w3 w5→(∀w6 x y,Chg Qac w5 w6→Chg Qac w3 w6→K x y w6)→Calls Pg Qaq #[mV N lb lc tb tc wb wc',.agg #[.int .i64 x,.int .i64 y],.bool z] w5 fun e w'=>∃x y,e=.returned (.agg #[.int .i64 x,.int .i64 y])∧K x y w':=fun {w5 x y z K} c5 k=>by
    refine (c_corner (hx3.nob c5) nd hsz.2).mono ?_
    rintro e w6 ⟨x,y,rfl,c6⟩
    exact ⟨x,y,rfl,k _ _ _ c6 (c5.trans c6)⟩
   have k2:∀{w5:World} {K:Prop},Chg Qac w3 w5→K→(w5.cell? ⟨A2,4,none⟩=some (.int .i64 n10)∧w5.cell? ⟨A2,5,none⟩=some (.int .i64 n11)∧kps w5 ⟨A1,0,none⟩ 0 [.int .i64 (N:Nat),.slice lb N lc,.int .i64 (N:Nat),.slice tb N tc,.slice wb N wc'] K):=fun {w5 K} c5 k=>by
    have p1:=c5.row (fun h=>h) q1
    have p2:=c5.row (fun h=>h) q2
    exact ⟨by rw [p2.cell];rfl,by rw [p2.cell];rfl,kps_r p1 k⟩
   have k1:∀{w5:World} {K:Prop},Chg Qac w3 w5→K→(w5.cell? ⟨A2,2,none⟩=some (.int .i64 n8)∧w5.cell? ⟨A2,3,none⟩=some (.int .i64 n9)∧kps w5 ⟨A1,0,none⟩ 0 [.int .i64 (N:Nat),.slice lb N lc,.int .i64 (N:Nat),.slice tb N tc,.slice wb N wc'] K):=fun {w5 K} c5 k=>by
    have p1:=c5.row (fun h=>h) q1
    have p2:=c5.row (fun h=>h) q2
    exact ⟨by rw [p2.cell];rfl,by rw [p2.cell];rfl,kps_r p1 k⟩
   have al:∀{w5:World} {K:Addr→World→Prop},Chg Qac w3 w5→(∀P w6,w5.heap.size≤P→P<w6.heap.size→Chg Qac w5 w6→Chg Qac w3 w6→Row w6.heap P Qbl [.int .i64 0,.int .i64 0]→K ⟨P,0,none⟩ w6)→alo #[.int .i64 0,.int .i64 0] Qbl w5 K:=fun {w5 K} c5 k=>Qa3 fun P w6 hP c6 r6=>k _ _ hP r6.lt c6 (c5.trans c6) r6
   have leaf:∀{w5:World} {P Q:Nat} {x y u v:Int},Chg Qac w3 w5→(w3.heap.size≤P∧w3.heap.size≤Q∧P≠Q)→Row w5.heap P Qbl [.int .i64 0,.int .i64 0]→Row w5.heap Q Qbl [.int .i64 0,.int .i64 0]→
     sto ⟨P,0,none⟩ (.int .i64 x) w5 fun w1=>sto (Addr.add ⟨P,0,none⟩ 1) (.int .i64 y) w1 fun w2=>sto ⟨Q,0,none⟩ (.int .i64 u) w2 fun w3'=>sto (Addr.add ⟨Q,0,none⟩ 1) (.int .i64 v) w3' fun w'=>∃P' Q' p0 p1 q0 q1,[Value.pointer (some ⟨P,0,none⟩),.pointer (some ⟨Q,0,none⟩)]=[.pointer (some ⟨P',0,none⟩),.pointer (some ⟨Q',0,none⟩)]∧Row w'.heap P' Qbl [.int .i64 p0,.int .i64 p1]∧Row w'.heap Q' Qbl [.int .i64 q0,.int .i64 q1]∧Chg Qac w3 w':=fun {w5 P Q x y u v} c5 hh rP rQ=>
    lf hh.2.2 rP rQ fun w' c6 rP' rQ'=>⟨_,_,_,_,_,_,rfl,rP',rQ',c5.trans' c6 fun i e=>.inr (by omega)⟩
   have sz:∀{w5 w6:World},Chg Qac w5 w6→w5.heap.size≤w6.heap.size:=fun c=>c.size
   rw [Qaf,Qaf,Qaf,Qaf]
   refine Qjf (c4.row (fun h=>h) q1) (Qak (n:=n8) (c4.row (fun h=>h) q2) rfl (Qak (n:=n9) (c4.row (fun h=>h) q2) rfl (Qjf (c4.row (fun h=>h) q1) (Qak (n:=n10) (c4.row (fun h=>h) q2) rfl (Qak (n:=n11) (c4.row (fun h=>h) q2) rfl ⟨?_,?_,?_⟩)))))
   ·refine cor c4 fun w5 x y _ h5=>k2 h5 ⟨cor h5 fun w6 u v _ h6=>⟨?_,?_⟩,al h5 fun P w6 hP lP _ h6 rP=>k2 h6 ⟨?_,?_⟩,al h5 fun P w6 hP lP _ h6 rP=>k2 h6 ⟨?_,?_⟩⟩
    ·exact al h6 fun P w7 hP lP _ h7 rP=>al h7 fun Q w8 hQ lQ c8 h8 rQ=>leaf h8 (by have:=sz h6;have:=sz h7;omega) (c8.row (fun h=>h) rP) rQ
    ·exact al h6 fun P w7 hP lP _ h7 rP=>al h7 fun Q w8 hQ lQ c8 h8 rQ=>leaf h8 (by have:=sz h6;have:=sz h7;omega) rQ (c8.row (fun h=>h) rP)
    ·exact cor h6 fun w7 u v c7 h7=>al h7 fun Q w8 hQ lQ c8 h8 rQ=>leaf h8 (by have:=sz h5;have:=sz h6;have:=sz c7;omega) ((c7.trans c8).row (fun h=>h) rP) rQ
    ·exact al h6 fun Q w7 hQ lQ c7 h7 rQ=>k2 h7 (cor h7 fun w8 u v c8 h8=>leaf h8 (by have:=sz h5;have:=sz h6;omega) ((c7.trans c8).row (fun h=>h) rP) (c8.row (fun h=>h) rQ))
    ·exact cor h6 fun w7 u v c7 h7=>al h7 fun Q w8 hQ lQ c8 h8 rQ=>leaf h8 (by have:=sz h5;have:=sz h6;have:=sz c7;omega) rQ ((c7.trans c8).row (fun h=>h) rP)
    ·exact al h6 fun Q w7 hQ lQ c7 h7 rQ=>k2 h7 (cor h7 fun w8 u v c8 h8=>leaf h8 (by have:=sz h5;have:=sz h6;omega) (c8.row (fun h=>h) rQ) ((c7.trans c8).row (fun h=>h) rP))
   ·refine al c4 fun P w5 hP lP _ h5 rP=>k2 h5 (k1 h5 ⟨cor h5 fun w6 x y c6 h6=>k2 h6 ⟨?_,?_⟩,al h5 fun Q w6 hQ lQ c6 h6 rQ=>k2 h6 (k1 h6 ?_)⟩)
    ·exact cor h6 fun w7 u v c7 h7=>al h7 fun Q w8 hQ lQ c8 h8 rQ=>leaf h8 (by have:=sz c4;have:=sz h6;have:=sz c6;have:=sz c7;omega) (((c6.trans c7).trans c8).row (fun h=>h) rP) rQ
    ·exact al h6 fun Q w7 hQ lQ c7 h7 rQ=>k2 h7 (cor h7 fun w8 u v c8 h8=>leaf h8 (by have:=sz c4;have:=sz c6;have:=sz h6;omega) (((c6.trans c7).trans c8).row (fun h=>h) rP) (c8.row (fun h=>h) rQ))
    ·exact cor h6 fun w7 x y c7 h7=>k2 h7 (cor h7 fun w8 u v c8 h8=>leaf h8 (by have:=sz c4;have:=sz h5;omega) (((c6.trans c7).trans c8).row (fun h=>h) rP) ((c7.trans c8).row (fun h=>h) rQ))
   ·refine al c4 fun P w5 hP lP _ h5 rP=>k2 h5 (k1 h5 ⟨cor h5 fun w6 x y c6 h6=>k2 h6 ⟨?_,?_⟩,al h5 fun Q w6 hQ lQ c6 h6 rQ=>k2 h6 (k1 h6 ?_)⟩)
    ·exact cor h6 fun w7 u v c7 h7=>al h7 fun Q w8 hQ lQ c8 h8 rQ=>leaf h8 (by have:=sz c4;have:=sz h6;have:=sz c6;have:=sz c7;omega) rQ (((c6.trans c7).trans c8).row (fun h=>h) rP)
    ·exact al h6 fun Q w7 hQ lQ c7 h7 rQ=>k2 h7 (cor h7 fun w8 u v c8 h8=>leaf h8 (by have:=sz c4;have:=sz c6;have:=sz h6;omega) (c8.row (fun h=>h) rQ) (((c6.trans c7).trans c8).row (fun h=>h) rP))
    ·exact cor h6 fun w7 x y c7 h7=>k2 h7 (cor h7 fun w8 u v c8 h8=>leaf h8 (by have:=sz c4;have:=sz h5;omega) ((c7.trans c8).row (fun h=>h) rQ) (((c6.trans c7).trans c8).row (fun h=>h) rP))
  ·rintro _ p q' w5 ⟨P,Q,u0,u1,v0,v1,hvs,rP,rQ,c5⟩
   simp only [List.cons.injEq,Value.pointer.injEq,and_true] at hvs
   obtain ⟨rfl,rfl⟩:=hvs
   have m1:=c5.row (fun h=>h) q1
   have m2:=c5.row (fun h=>h) q2
   rw [Qaf,Qaf]
   refine Qjf m1 (Qak (n:=n7) m2 rfl (pt_i ?_))
   rw [Qaf]
   refine Qak (n:=u0) rP rfl (Qak (n:=u1) rP rfl (pt_i ?_))
   rw [Qaf]
   refine Qak (n:=v0) rQ rfl (Qak (n:=v1) rQ rfl (Qak (n:=n12) m2 rfl ((r_Join (hx3.nob c5) h.a.cb hsz.1 hsz.2 (hbad3 c5.size)).mono ?_)))
   rintro r w6 ⟨_,rfl,hac⟩
   obtain ⟨lb',tb',wb',lc',tc',wc'',lv1,tl1,W1,rfl,c6,hx6,hor⟩:=one hac
   refine ⟨_,_,_,_,_,_,_,_,_,_,_,_,rfl,mid (c5.trans c6) hx6 fun w7 A4 c67 c7 hA4 hx7 r4=>?_⟩
   have m2:=c7.row (fun h=>h) q2
   have c57:=c6.trans c67
   have rP:=c57.row (fun h=>h) rP
   have rQ:=c57.row (fun h=>h) rQ
   refine Qak (n:=n7) m2 rfl (pt_i (Qkd (i:=0) (by omega) (Qak (n:=u0) rP rfl (pt_i (Qkd (i:=1) (by omega) (Qak (n:=u1) rP rfl (pt_i (Qkd (i:=0) (by omega) (Qak (n:=v0) rQ rfl (pt_i (Qkd (i:=1) (by omega) (Qak (n:=v1) rQ rfl (Qak (n:=n12) m2 rfl ((x_Join (hm.a.nob c7).a hw).mono ?_))))))))))))))
   rintro r w8 ⟨rfl,k1,k2⟩
   obtain ⟨j,rfl,rfl,rfl⟩ | ⟨j,rfl,rfl,rfl⟩:=hor
   ·exact ⟨_,rfl,fin c7 hA4 hx7 r4 (k1 j) hk0⟩
   ·obtain ⟨q',B',D',gs⟩:=k2 j
    obtain ⟨j1,j2⟩:=jE_0 j
    refine ⟨_,rfl,fin c7 hA4 hx7 r4 gs fun i hi=>?_⟩
    by_cases hie:i=n7.toNat
    ·rw [hie,Qab,Qab]
    ·rw [Qai _ _ hie,Qai _ _ hie]
     refine hk0 i ?_
     rcases (Qkb j1 j2).1 hi with k | k | k
     ·omega
     ·omega
     ·exact k
 ·rw [Qaf]
  refine Qjf q1 (Qak (n:=n7) q2 rfl ((r_Part hx3 h.a.cb.mp hsz.2 (hbad3 (Nat.le_refl _))).mono ?_))
  rintro r w5 ⟨_,rfl,hac⟩
  obtain ⟨lb',tb',wb',lc',tc',wc'',lv1,tl1,W1,rfl,c5,hx5,hor⟩:=one hac
  refine ⟨_,_,_,_,_,_,_,_,_,_,_,_,rfl,mid c5 hx5 fun w6 A4 _ c6 hA4 hx6 r4=>Qak (n:=n7) (c6.row (fun h=>h) q2) rfl ((x_Part (hm.a.nob c6).a).mono ?_)⟩
  rintro r w7 ⟨rfl,k1,k2⟩
  obtain ⟨j,rfl,rfl,rfl⟩ | ⟨j,rfl,rfl,rfl⟩:=hor
  ·obtain rfl:=k1 j
   exact ⟨_,rfl,fin c6 hA4 hx6 r4 (hm.a.nob c6).a.start hk0⟩
  ·obtain ⟨q',B',D',gs,_⟩:=k2 j
   refine ⟨_,rfl,fin c6 hA4 hx6 r4 gs fun i hi=>hk0 i ?_⟩
   unfold eE at j
   split at j
   ·split at j
    ·rename_i hl
     unfold Laid at hi
     rw [(h.a.cb.mp.liftM hl).2] at hi
     exact hi.2.2
    ·cases j
   ·cases j
 ·rw [Qaf,Qaf]
  refine Qjf q1 (Qak (n:=n7) q2 rfl (Qak (n:=n12) q2 rfl ((r_Weigh hx3 nd hsz.2 (hbad3 (Nat.le_refl _))).mono ?_)))
  rintro r w5 ⟨_,rfl,hac⟩
  obtain ⟨lb',tb',wb',lc',tc',wc'',lv1,tl1,W1,rfl,c5,hx5,hor⟩:=one hac
  refine ⟨_,_,_,_,_,_,_,_,_,_,_,_,rfl,mid c5 hx5 fun w6 A4 _ c6 hA4 hx6 r4=>Qak (n:=n7) (c6.row (fun h=>h) q2) rfl (Qak (n:=n12) (c6.row (fun h=>h) q2) rfl ((x_Weigh (hm.a.nob c6).a hw).mono ?_))⟩
  rintro r w7 ⟨rfl,k1,k2⟩
  obtain ⟨j,rfl,rfl,rfl⟩ | ⟨j,rfl,rfl,rfl⟩:=hor
  ·obtain rfl:=k1 j
   exact ⟨_,rfl,fin c6 hA4 hx6 r4 (hm.a.nob c6).a.start hk0⟩
  ·obtain ⟨B',D',gs⟩:=k2 j
   refine ⟨_,rfl,fin c6 hA4 hx6 r4 gs fun i hi=>?_⟩
   by_cases hie:i=n7.toNat
   ·rw [hie,Qab,Qab]
   ·rw [Qai _ _ hie,Qai _ _ hie];exact hk0 i hi
end
end Core
end Go.Proofs.YtpmicakdjhoafaaGreatDoor
namespace Go.Proofs.YtpmicakdjhoafaaGreatDoor
open Go Go.RowKit
def AC (w:World) (b:Option Addr) (l:Nat) (f:Nat→Nat→Int):Prop:=
 l=0∨∃a,b=some a∧a.block<w.heap.size∧∀i k,i<l→k<7→w.cell? ((a.add (i*7)).add k)=some (.int (if k=6 then .i32 else .i64) (f i k))
section
variable {w w':World} {b:Option Addr} {l:Nat} {f:Nat→Nat→Int}
theorem AC.keep {S:Nat→Prop} (h:AC w b l f) (k:Chg S w w') (hS:∀g,g<w.heap.size→¬S g):AC w' b l f:=by
 refine h.imp id ?_
 rintro ⟨a,rfl,ha,hc⟩
 refine ⟨a,rfl,Nat.lt_of_lt_of_le ha k.size,fun i j hi hj=>?_⟩
 rw [←hc i j hi hj]
 refine Seq.Qyc ?_
 rw [Qmq,Qmq]
 exact k.block _ ha (hS _ ha)
theorem AC.nob (h:AC w b l f) (k:Chg Qac w w'):AC w' b l f:=h.keep k (fun _ _ h=>h)
theorem AC.ld (h:AC w b l f) {i:Nat} (hi:i<l) {K:Int→Int→Int→Int→Int→Int→Int→Prop} (k:K (f i 0) (f i 1) (f i 2) (f i 3) (f i 4) (f i 5) (f i 6)):ixS b l (i:Int) 7 fun a=>Qiq a w K:=by
 rcases h with h0 | ⟨a,rfl,ha,hc⟩
 ·omega
 ·refine ⟨a,rfl,by omega,by omega,?_⟩
  have:(i:Int).toNat=i:=by omega
  rw [this]
  exact ⟨_,hc i 0 hi (by omega),_,hc i 1 hi (by omega),_,hc i 2 hi (by omega),_,hc i 3 hi (by omega),_,hc i 4 hi (by omega),_,hc i 5 hi (by omega),_,hc i 6 hi (by omega),k⟩
end
namespace Core
open Go.Proofs.YtpmicakdjhoafaaGreatDoor.Seq Go.Proofs.YtpmicakdjhoafaaGreatDoor.Cut Go.Proofs.YtpmicakdjhoafaaGreatDoor.Web
section
variable {w₀ w w':World} {b:Bk} {N:Nat} {X:Nat→Prop} {sb:Option Addr} {sl sc:Nat} {f:Nat→Nat→Int}
theorem Qqw:dl (fun _=>[]) N=[]:=by
 unfold dl
 exact List.flatMap_eq_nil_iff.2 fun _ _=>rfl
theorem GM.new (h:MR w.heap b N (fun _=>false) (fun _=>[]) (ones (3*N)) (fun _=>none) (fun _=>none) (fun _=>0)):GM w.heap b N (fun _=>false) (fun _=>[]) (ones (3*N)) (fun _=>none) (fun _=>none) (fun _=>0):=by
 obtain ⟨nd,lt,_,al⟩:=h.w.nodup
 have hl:∀e,¬Laid (fun _=>[]) N e:=fun e k=>by unfold Laid at k;rw [Qqw] at k;cases k
 refine ⟨h,⟨⟨⟨(by rw [Qqw];exact List.nodup_nil),fun d k=>(by rw [Qqw] at k;cases k)⟩,fun d k=>(by rw [Qqw] at k;cases k)⟩,fun A hA x y k=>?_,nd,fun x hx=>al x hx,lt,fun i p k=>(by cases k),fun i p k=>(by cases k),fun _=>.inl rfl,fun _ k=>k.elim,fun i k=>absurd k (hl i)⟩,fun g f p r _ k=>(by cases k),fun v _ k=>absurd rfl k,fun e k=>absurd k (hl e)⟩
 obtain ⟨i,_,rfl⟩:∃i,i<3*N∧[i]=A:=by simpa [ones] using hA
 have hm:=k.mem
 rw [List.mem_singleton] at hm
 rw [List.mem_singleton] at hm
 rw [hm.1,hm.2]
 exact Qez (by rw [Qqw];exact List.not_mem_nil)
end
end Core
end Go.Proofs.YtpmicakdjhoafaaGreatDoor
namespace Go.Proofs.YtpmicakdjhoafaaGreatDoor
open Go Go.RowKit
namespace Core
open Go.Proofs.YtpmicakdjhoafaaGreatDoor.Seq Go.Proofs.YtpmicakdjhoafaaGreatDoor.Cut Go.Proofs.YtpmicakdjhoafaaGreatDoor.Web
def V3:Nat→Bool:=upd (upd (upd (fun _=>false) 0 true) 1 true) 2 true
def T1:Nat→List Nat:=lay (fun _=>[]) 0 0 (-1) 1 (-1)
def T2:Nat→List Nat:=lay T1 1 1 1 2 (-1)
def T3:Nat→List Nat:=lay T2 2 2 3 0 0
def T4:Nat→List Nat:=lift T3 3 0
def K1:Nat→Int:=upd (fun _=>0) 0 (1*1048576+(0:Nat))
def K2:Nat→Int:=upd K1 1 (2*1048576+(1:Nat))
def K3:Nat→Int:=upd K2 2 (3*1048576+(2:Nat))
section
variable {w₀ w w':World} {b:Bk} {N v x y:Nat} {lv:Nat→Bool} {tl:Nat→List Nat} {q:List (List Nat)} {B D:Nat→Option (Nat × Nat)} {ky:Nat→Int}
theorem iso (h:∀i p,B i=some p→p.1≠v∧p.2≠v) (k:LK [] B v y):y=v:=by
 induction k with
 | refl=>rfl
 | @step x y _ k ih=>
  subst ih
  rcases k with ⟨_,k,_⟩ | ⟨i,k | k⟩
  ·cases k
  ·exact absurd rfl (h i _ k).1
  ·exact absurd rfl (h i _ k).2
theorem gc_iso (h:∀e,Laid tl N e→og tl N (2*e)≠v∧og tl N (2*e+1)≠v) (k:GC tl N v y):y=v:=by
 induction k with
 | refl=>rfl
 | step _ k ih=>
  subst ih
  obtain ⟨e,he,⟨k,_⟩ | ⟨k,_⟩⟩:=k
  ·exact absurd k.symm (h e he).1
  ·exact absurd k.symm (h e he).2
theorem laid3 {e:Nat} (h:Laid T3 3 e):e=0∨e=1∨e=2:=by
 have:∀d∈dl T3 3,d/2=0∨d/2=1∨d/2=2:=by decide
 have:=this _ h
 omega
theorem laid4 {e:Nat} (h:Laid T4 3 e):e=1∨e=2:=by
 have:∀d∈dl T4 3,d/2=1∨d/2=2:=by decide
 have:=this _ h
 omega
theorem ring3 (h:GM w.heap b 3 lv T3 q B D K3):(B 0).isSome∧(B 1).isSome∧B 2=none:=by
 have l0:Laid T3 3 0:=by unfold Laid;decide
 have l1:Laid T3 3 1:=by unfold Laid;decide
 have l2:Laid T3 3 2:=by unfold Laid;decide
 have o:og T3 3 0=0∧og T3 3 1=1∧og T3 3 2=1∧og T3 3 3=2∧og T3 3 4=2∧og T3 3 5=0:=by decide
 obtain ⟨o0,o1,o2,o3,o4,o5⟩:=o
 have hb:∀i p,B i=some p→(i=0∧p=(0,1))∨(i=1∧p=(1,2))∨(i=2∧p=(2,0)):=fun i p k=>by
  obtain ⟨k1,rfl,_⟩:=h.cb.bB i p k
  rcases laid3 k1 with rfl | rfl | rfl
  ·exact .inl ⟨rfl,by rw [o0,o1]⟩
  ·exact .inr (.inl ⟨rfl,by rw [show 2*1=2 from rfl,o2,o3]⟩)
  ·exact .inr (.inr ⟨rfl,by rw [show 2*2=4 from rfl,o4,o5]⟩)
 have cov:∀{i},Laid T3 3 i→D i=none→(B i).isSome:=fun {i} hi hd=>by
  rcases h.cb.cov i hi with k | k | k
  ·exact k.elim
  ·exact k
  ·rw [hd] at k;cases k
 have ex:∀{i p},D i=some p→B i=none:=fun {i p} k=>(h.cb.ex i).resolve_right (by rw [k];simp)
 have h2:B 2=none:=by
  cases e2:B 2 with
  | none=>rfl
  | some p=>
   exfalso
   have d0:D 0=none:=by
    cases d:D 0 with
    | none=>rfl
    | some r=>
     have b0:=ex d
     have:=h.mm 2 0 p r (fun h=>h) e2 d fun k=>by
      have:=iso (v:=og T3 3 (2*0)) (fun i p' k'=>by
       obtain ⟨i2,k'⟩:=Qdt k'
       rcases hb i p' k' with ⟨rfl,rfl⟩ | ⟨rfl,rfl⟩ | ⟨rfl,rfl⟩
       ·rw [b0] at k';cases k'
       ·rw [show 2*0=0 from rfl,o0];decide
       ·exact absurd rfl i2) k
      rw [show 2*0=0 from rfl,show 0+1=1 from rfl,o0,o1] at this
      cases this
     exact absurd this (by decide)
   have d1:D 1=none:=by
    cases d:D 1 with
    | none=>rfl
    | some r=>
     have b0:=ex d
     have:=h.mm 2 1 p r (fun h=>h) e2 d fun k=>by
      have:=iso (v:=og T3 3 (2*1+1)) (fun i p' k'=>by
       obtain ⟨i2,k'⟩:=Qdt k'
       rcases hb i p' k' with ⟨rfl,rfl⟩ | ⟨rfl,rfl⟩ | ⟨rfl,rfl⟩
       ·rw [show 2*1+1=3 from rfl,o3];decide
       ·rw [b0] at k';cases k'
       ·exact absurd rfl i2) k.symm
      rw [show 2*1+1=3 from rfl,show 2*1=2 from rfl,o2,o3] at this
      cases this
     exact absurd this (by decide)
   obtain ⟨p0,b0⟩:=Option.isSome_iff_exists.1 (cov l0 d0)
   obtain ⟨p1,b1⟩:=Option.isSome_iff_exists.1 (cov l1 d1)
   have e0:p0=(0,1):=by rcases hb 0 p0 b0 with ⟨_,k⟩ | ⟨k,_⟩ | ⟨k,_⟩<;>first | exact k | cases k
   have e1:p1=(1,2):=by rcases hb 1 p1 b1 with ⟨k,_⟩ | ⟨_,k⟩ | ⟨k,_⟩<;>first | exact k | cases k
   have e3:p=(2,0):=by rcases hb 2 p e2 with ⟨k,_⟩ | ⟨k,_⟩ | ⟨_,k⟩<;>first | exact k | cases k
   subst e0 e1 e3
   refine h.cj.fB 2 _ _ e2 ?_
   exact ((LK.te (e:=0) (by rw [Qai _ _ (by decide)];exact b0)).trans (LK.te (e:=1) (by rw [Qai _ _ (by decide)];exact b1))).symm
 refine ⟨?_,?_,h2⟩
 ·cases b0:B 0 with
  | some p=>rfl
  | none=>
   have:=iso (v:=og T3 3 (2*0)) (fun i p' k'=>by
    rcases hb i p' k' with ⟨rfl,rfl⟩ | ⟨rfl,rfl⟩ | ⟨rfl,rfl⟩
    ·rw [b0] at k';cases k'
    ·rw [show 2*0=0 from rfl,o0];decide
    ·rw [h2] at k';cases k') (h.cj.hang l0)
   rw [show 2*0=0 from rfl,show 0+1=1 from rfl,o0,o1] at this
   cases this
 ·cases b0:B 1 with
  | some p=>rfl
  | none=>
   have:=iso (v:=og T3 3 (2*1+1)) (fun i p' k'=>by
    rcases hb i p' k' with ⟨rfl,rfl⟩ | ⟨rfl,rfl⟩ | ⟨rfl,rfl⟩
    ·rw [show 2*1+1=3 from rfl,o3];decide
    ·rw [b0] at k';cases k'
    ·rw [h2] at k';cases k') (h.cj.hang l1).symm
   rw [show 2*1+1=3 from rfl,show 2*1=2 from rfl,o2,o3] at this
   cases this
theorem path3 (h:GM w.heap b 3 lv T4 q B D K3):B 0=none∧(B 1).isSome∧(B 2).isSome:=by
 have l1:Laid T4 3 1:=by unfold Laid;decide
 have l2:Laid T4 3 2:=by unfold Laid;decide
 have o:og T4 3 2=1∧og T4 3 3=2∧og T4 3 4=2∧og T4 3 5=0:=by decide
 obtain ⟨o2,o3,o4,o5⟩:=o
 have hb:∀i p,B i=some p→(i=1∧p=(1,2))∨(i=2∧p=(2,0)):=fun i p k=>by
  obtain ⟨k1,rfl,_⟩:=h.cb.bB i p k
  rcases laid4 k1 with rfl | rfl
  ·exact .inl ⟨rfl,by rw [show 2*1=2 from rfl,o2,o3]⟩
  ·exact .inr ⟨rfl,by rw [show 2*2=4 from rfl,o4,o5]⟩
 refine ⟨?_,?_,?_⟩
 ·cases b0:B 0 with
  | none=>rfl
  | some p=>rcases hb 0 p b0 with ⟨k,_⟩ | ⟨k,_⟩<;>cases k
 ·cases b0:B 1 with
  | some p=>rfl
  | none=>
   have:=iso (v:=og T4 3 (2*1)) (fun i p' k'=>by
    rcases hb i p' k' with ⟨rfl,rfl⟩ | ⟨rfl,rfl⟩
    ·rw [b0] at k';cases k'
    ·rw [show 2*1=2 from rfl,o2];decide) (h.cj.hang l1)
   rw [show 2*1+1=3 from rfl,show 2*1=2 from rfl,o2,o3] at this
   cases this
 ·cases b0:B 2 with
  | some p=>rfl
  | none=>
   have:=iso (v:=og T4 3 (2*2+1)) (fun i p' k'=>by
    rcases hb i p' k' with ⟨rfl,rfl⟩ | ⟨rfl,rfl⟩
    ·rw [show 2*2+1=5 from rfl,o5];decide
    ·rw [b0] at k';cases k') (h.cj.hang l2).symm
   rw [show 2*2+1=5 from rfl,show 2*2=4 from rfl,o4,o5] at this
   cases this
theorem jE_of {e u v:Nat} {be ce:Int} (h0:e<N) (h1:¬Laid tl N e) (h2:k2E lv tl N u be v ce=0) (h3:Lgl tl N u be v ce):jE lv tl N e u be v ce=0:=by
 unfold jE
 rw [if_pos (by omega),Int.toNat_natCast,if_neg h1,if_pos h2,Int.toNat_natCast,Int.toNat_natCast,if_pos h3]
theorem j1:jE V3 (fun _=>[]) 3 (0:Nat) (0:Nat) (-1) (1:Nat) (-1)=0:=
 jE_of (by omega) (by unfold Laid;decide) (by decide) (.inr fun k=>by
  have := gc_iso (v := 0) (fun e he => by have : ∀ d, d ∉ dl (fun _ => []) 3 := by decide
                                          exact absurd he (this _)) k
  cases this)
theorem j2:jE V3 T1 3 (1:Nat) (1:Nat) 1 (2:Nat) (-1)=0:=
 jE_of (by omega) (by unfold Laid;decide) (by decide) (.inr fun k=>by
  have:=gc_iso (v:=2) (fun e he=>by
   have:∀d∈dl T1 3,d/2=0:=by decide
   have:=this _ he
   obtain rfl:e=0:=by omega
   decide) (RT.symm (fun x y ⟨e,he,k⟩=>⟨e,he,k.symm.imp And.symm And.symm⟩) k)
  cases this)
theorem j3:jE V3 T2 3 (2:Nat) (2:Nat) 3 (0:Nat) 0=0:=
 jE_of (by omega) (by unfold Laid;decide) (by decide) (.inl (by
  show PF T2 3 3 0
  have a:PF T2 3 3 1:=RT.one (by decide)
  exact RT.step a (by decide)))
theorem sB3 (h0:(B 0).isSome) (h1:(B 1).isSome) (h2:B 2=none):sB B K3 3=3:=by
 unfold sB
 simp only [sm,h0,h1,h2,Option.isSome_none,if_pos,Bool.false_eq_true,if_false]
 decide
theorem sB4 (h0:B 0=none) (h1:(B 1).isSome) (h2:(B 2).isSome):sB B K3 3=5∧cB B 3=2:=by
 unfold sB cB
 simp only [sm,h0,h1,h2,Option.isSome_none,if_pos,Bool.false_eq_true,if_false]
 decide
theorem cE4:cE T4 3=2:=by
 have l0:¬Laid T4 3 0:=by unfold Laid;decide
 have l1:Laid T4 3 1:=by unfold Laid;decide
 have l2:Laid T4 3 2:=by unfold Laid;decide
 unfold cE
 simp only [sm,if_neg l0,if_pos l1,if_pos l2]
 decide
def SU (w₀ w:World) (b:Bk) (lv:Nat→Bool) (tl:Nat→List Nat) (ky:Nat→Int):Prop:=Chg Qac w₀ w∧(∀k,b.has k→w₀.heap.size≤k)∧∃q B D,GM w.heap b 3 lv tl q B D ky
theorem SU.gs (c:Chg Qac w₀ w) (hl:∀k,b.has k→w₀.heap.size≤k) (g:GS w w' b 3 lv tl q B D ky):SU w₀ w' b lv tl ky:=
 ⟨c.trans' g.c fun k j=>.inr (hl k (Bk.sub j)),hl,_,_,_,g.a⟩
theorem SU.add (v:Nat) (hv:v<3) (hl:lv v=false) (h:SU w₀ w b lv tl ky):Calls Pg Qbj #[.pointer (some ⟨b.M,0,none⟩),.int .i64 (v:Nat)] w fun r w'=>r=.returned (errV 0)∧SU w₀ w' b (upd lv v true) tl ky:=by
 obtain ⟨c,hlo,q,B,D,g⟩:=h
 refine (Qtj g).mono ?_
 rintro r w' (⟨_,_,_,rfl,gs⟩ | ⟨k,_⟩)
 ·exact ⟨rfl,.gs c hlo gs⟩
 ·exact absurd ⟨by omega,by omega,hl⟩ k
theorem SU.join (e u v:Nat) (be ce z:Int) (hj:jE lv tl 3 e u be v ce=0) (hz:-2147483648≤z∧z≤2147483647) (h:SU w₀ w b lv tl ky) :
  Calls Pg Qdd #[.pointer (some ⟨b.M,0,none⟩),.int .i64 (e:Nat),.agg #[.int .i64 (u:Nat),.int .i64 be],.agg #[.int .i64 (v:Nat),.int .i64 ce],.int .i32 z] w fun r w'=>r=.returned (errV 0)∧SU w₀ w' b lv (lay tl e u be v ce) (upd ky e (z*1048576+e)):=by
 obtain ⟨c,hlo,q,B,D,g⟩:=h
 refine (x_Join g hz).mono ?_
 rintro r w' ⟨rfl,_,k⟩
 obtain ⟨_,_,_,gs⟩:=k hj
 exact ⟨by rw [hj],.gs c hlo gs⟩
theorem c_sure16:Calls Pg Qh5 #[] w fun r w'=>r=.returned (.bool true)∧Chg Qac w w':=by
 refine (Qoy _ (fun v' w'=>v'=.bool true∧Chg Qac w w') ?_).mono (by rintro e w' ⟨v,rfl,rfl,k⟩;exact ⟨rfl,k⟩)
 unfold Qk9
 refine (Qv4 (N:=3) (by omega) (by omega)).mono ?_
 rintro r w2 ⟨b,rfl,c2,hlo,hmr⟩
 have s0:SU w w2 b (fun _=>false) (fun _=>[]) (fun _=>0):=⟨c2,hlo,_,_,_,GM.new hmr⟩
 refine ⟨_,_,rfl,fun _ w'=>SU w w' b V3 (fun _=>[]) (fun _=>0),Qam (fun e=>absurd rfl e) (fun _=>Qag (fun h=>by cases h) (fun _=>(s0.add 0 (by omega) rfl).mono ?_)),?_⟩
 ·rintro r w3 ⟨rfl,s1⟩
  refine ⟨_,rfl,Qam (fun e=>absurd rfl e) (fun _=>(s1.add 1 (by omega) (by decide)).mono ?_)⟩
  rintro r w4 ⟨rfl,s2⟩
  refine ⟨_,rfl,Qam (fun e=>absurd rfl e) (fun _=>(s2.add 2 (by omega) (by decide)).mono ?_)⟩
  rintro r w5 ⟨rfl,s3⟩
  exact ⟨_,rfl,Qam (fun e=>absurd rfl e) (fun _=>s3)⟩
 rintro _ w6 s3
 refine ⟨fun _ w'=>SU w w' b V3 T3 K3,(SU.join 0 0 1 (-1) (-1) 1 j1 (by omega) s3).mono ?_,?_⟩
 ·rintro r w3 ⟨rfl,s1⟩
  refine ⟨_,rfl,Qam (fun e=>absurd rfl e) (fun _=>(SU.join 1 1 2 1 (-1) 2 j2 (by omega) s1).mono ?_)⟩
  rintro r w4 ⟨rfl,s2⟩
  refine ⟨_,rfl,Qam (fun e=>absurd rfl e) (fun _=>(SU.join 2 2 0 3 0 3 j3 (by omega) s2).mono ?_)⟩
  rintro r w5 ⟨rfl,s3⟩
  exact ⟨_,rfl,Qam (fun e=>absurd rfl e) (fun _=>s3)⟩
 rintro _ w7 ⟨c7,_,q,B,D,g⟩
 obtain ⟨b0,b1,b2⟩:=ring3 g
 refine (x_Sum g).mono ?_
 rintro r w8 ⟨rfl,rfl⟩
 refine ⟨_,rfl,(Qyn (e:=2) g).mono ?_⟩
 rintro r w9 ⟨rfl,z,rfl,_,hz⟩
 have e2:eE T3 3 2=0:=eE_of (e:=2) (by omega) (by unfold Laid;decide)
 have hz:=hz e2
 rw [e2]
 rw [show (2:Int).toNat=2 from rfl,b2] at hz
 subst hz
 rw [sB3 b0 b1 b2]
 refine ⟨_,_,rfl,Qag (fun _=>err_j (fun _=>Qag (fun _=>(x_Part (e:=0) g).mono ?_) fun h=>by cases h) fun e=>absurd rfl e) fun h=>by cases h⟩
 rintro r w10 ⟨rfl,_,k⟩
 have e0:eE T3 3 0=0:=eE_of (e:=0) (by omega) (by unfold Laid;decide)
 obtain ⟨q',B',D',gs,_⟩:=k e0
 rw [e0]
 have c10:Chg Qac w w10:=c7.trans' gs.c fun k j=>.inr (hlo k (Bk.sub j))
 obtain ⟨b0,b1,b2⟩:=path3 gs.a
 obtain ⟨e5,e6⟩:=sB4 b0 b1 b2
 refine ⟨_,rfl,err_j (fun _=>(x_Sum gs.a).mono ?_) fun e=>absurd rfl e⟩
 rintro r w11 ⟨rfl,rfl⟩
 rw [e5]
 refine ⟨_,rfl,Qag (fun _=>(c_Counts gs.a.toMR).mono ?_) fun h=>by cases h⟩
 rintro r w12 ⟨rfl,c12⟩
 have eV:cV V3 3=3:=by decide
 rw [e6,eV,show lift T3 3 (0:Int).toNat=T4 from rfl,cE4]
 refine ⟨_,_,_,_,rfl,_,_,(Qyw (k:=.i64) (offs:=[0,1,2,3]) (X:=fun o=>if o=0 then 3 else if o=1 then 2 else 1) (Y:=fun o=>if o=0 then 3 else if o=1 then 2 else 1) (by kernel_rfl) (by kernel_rfl) (by kernel_rfl) (by kernel_rfl) (by kernel_rfl) ?_).1,?_⟩
 ·intro o ho
  simp only [List.mem_cons,List.not_mem_nil,or_false] at ho
  rcases ho with rfl | rfl | rfl | rfl<;>exact ⟨rfl,rfl⟩
 ·exact ⟨rfl,c10.trans c12⟩
end
end Core
end Go.Proofs.YtpmicakdjhoafaaGreatDoor
namespace Go.Proofs.YtpmicakdjhoafaaGreatDoor
open Go Go.RowKit
namespace Core
open Go.Proofs.YtpmicakdjhoafaaGreatDoor.Seq Go.Proofs.YtpmicakdjhoafaaGreatDoor.Cut Go.Proofs.YtpmicakdjhoafaaGreatDoor.Web
section
variable {w₀ w w':World} {b:Bk} {N:Nat} {lv lv':Nat→Bool} {tl tl':Nat→List Nat} {q q':List (List Nat)} {B D B' D':Nat→Option (Nat × Nat)} {ky ky':Nat→Int}
end
end Core
end Go.Proofs.YtpmicakdjhoafaaGreatDoor
