/-
Acts done to a map with one place more than its reference.
Conditions: those that each theorem states.
-/
import Derived.Test.YtpmicakdjhoafaaGreatDoorCoreB
set_option linter.unusedVariables false
set_option linter.unusedSimpArgs false
namespace Go.Proofs.YtpmicakdjhoafaaGreatDoor
open Go Go.RowKit
namespace Core
open Go.Proofs.YtpmicakdjhoafaaGreatDoor.Seq Go.Proofs.YtpmicakdjhoafaaGreatDoor.Cut Go.Proofs.YtpmicakdjhoafaaGreatDoor.Web
structure LB (X:Nat→Prop) (w₀ w:World) (b:Bk) (N:Nat) (lv:Nat→Bool) (tl:Nat→List Nat) (q:List (List Nat)) (B D:Nat→Option (Nat × Nat)) (ky W:Nat→Int) (lb tb wb:Option Addr):Prop where
 c:Chg Qac w₀ w
 lo:∀k,b.has k→w₀.heap.size≤k
 a:GM w.heap b (N+1) lv tl q B D ky
 x:XR w (fun k=>b.ch k∨X k) N lv tl W lb tb wb
 xl:∀k,X k→w₀.heap.size≤k∧k<w.heap.size
 xo:∀k,X k→¬b.has k
 t:tl N=[]
 v:lv N=false
 n:∀e,Laid tl N e→e<N
section
variable {w₀ w w':World} {b:Bk} {lb tb wb sb:Option Addr} {lc tc wc' sl sc N d:Nat} {bad X:Nat→Prop} {be ce er er2:Int} {lv lv':Nat→Bool} {tl tl':Nat→List Nat} {ky ky' W W':Nat→Int} {q q':List (List Nat)} {B B' D D':Nat→Option (Nat × Nat)}
theorem LB.nob (h:LB X w₀ w b N lv tl q B D ky W lb tb wb) (c:Chg Qac w w'):LB X w₀ w' b N lv tl q B D ky W lb tb wb:=⟨h.c.trans c,h.lo,(h.a.nob c).a,h.x.nob c,fun k j=>⟨(h.xl k j).1,Nat.lt_of_lt_of_le (h.xl k j).2 c.size⟩,h.xo,h.t,h.v,h.n⟩
theorem LB.low (h:LB X w₀ w b N lv tl q B D ky W lb tb wb):∀k,b.ch k∨X k→k<w.heap.size:=fun k j=>j.elim (h.a.toMR.x.low k) fun j=>(h.xl k j).2
theorem LB.put (h:LB X w₀ w b N lv tl q B D ky W lb tb wb) (c:Chg X w w'):LB X w₀ w' b N lv tl q B D ky W lb tb wb:=
 ⟨h.c.trans' c fun k j=>.inr (h.xl k j).1,h.lo,h.a.keep c h.xo,h.x.keep c fun _ j=>.inr j,fun k j=>⟨(h.xl k j).1,Nat.lt_of_lt_of_le (h.xl k j).2 c.size⟩,h.xo,h.t,h.v,h.n⟩
theorem jE_up {e u v:Int} (hM:MP N tl) (h:tl N=[]) (hv:lv N=false) (he:0≤e∧e<N):jE lv tl (N+1) e u be v ce=0↔jE lv tl N e u be v ce=0:=by
 have vU:∀{x:Int},vE lv (N+1) x=0↔vE lv N x=0:=fun {x}=>by
  unfold vE
  by_cases h1:0≤x∧x<N
  ·rw [if_pos h1,if_pos (by omega)]
  ·rw [if_neg h1]
   by_cases h2:0≤x∧x<((N+1:Nat):Int)
   ·rw [if_pos h2,show x.toNat=N by omega,hv];simp
   ·rw [if_neg h2]
 have kU:∀{x be:Int},kE lv tl (N+1) x be=0↔kE lv tl N x be=0:=fun {x be}=>by
  unfold kE
  by_cases h1:vE lv N x=0
  ·rw [if_pos h1,if_pos (vU.2 h1)]
   have hx:0≤x∧x<N:=Classical.byContradiction fun k=>by unfold vE at h1;rw [if_neg k] at h1;cases h1
   unfold oE
   rw [if_pos hx,if_pos (by omega)]
  ·rw [if_neg h1,if_neg (fun k=>h1 (vU.1 k)),vU]
 have k2U:k2E lv tl (N+1) u be v ce=0↔k2E lv tl N u be v ce=0:=by
  unfold k2E
  by_cases h1:kE lv tl N u be=0
  ·rw [if_pos h1,if_pos (kU.2 h1),kU]
  ·rw [if_neg h1,if_neg (fun k=>h1 (kU.1 k)),kU]
 unfold jE
 rw [if_pos he,if_pos (by omega)]
 by_cases hl:Laid tl N e.toNat
 ·rw [if_pos hl,if_pos ((Qmg h).2 hl)]
 ·rw [if_neg hl,if_neg (fun k=>hl ((Qmg h).1 k))]
  by_cases h2:k2E lv tl N u be v ce=0
  ·rw [if_pos h2,if_pos (k2U.2 h2)]
   have hk1:kE lv tl N u be=0:=Classical.byContradiction fun k=>by unfold k2E at h2;rw [if_neg k] at h2;exact k h2
   have hk2:kE lv tl N v ce=0:=by unfold k2E at h2;rwa [if_pos hk1] at h2
   obtain ⟨u,rfl,hu,_,hcu⟩:=kE_0 hk1
   obtain ⟨v,rfl,hv',_,hcv⟩:=kE_0 hk2
   rw [Int.toNat_natCast,Int.toNat_natCast]
   have:=lgl_up hM h hu hv' hcu hcv
   by_cases h3:Lgl tl N u be v ce
   ·rw [if_pos h3,if_pos (this.2 h3)]
   ·rw [if_neg h3,if_neg (fun k=>h3 (this.1 k))]
  ·rw [if_neg h2,if_neg (fun k=>h2 (k2U.1 k)),k2U]
theorem do_tailB {R:Value→World→Prop} {A A2:Nat} {ty ty2:TypeId} {cs:List Value} (hg:LaidG w) (r:Row w.heap A ty [.int .i64 (N:Nat),.slice lb N lc,.int .i64 (N:Nat),.slice tb N tc,.slice wb N wc']) (r2:Row w.heap A2 ty2 cs) (hl:cs.length=5) (k:∀w1 w2,Chg Qac w w1→Chg (·=A2) w1 w2→R (.tuple #[mV N lb lc tb tc wb wc',.bool (er==er2)]) w2) :
  kps w ⟨A,0,none⟩ 0 [.int .i64 (N:Nat),.slice lb N lc,.int .i64 (N:Nat),.slice tb N tc,.slice wb N wc'] (Calls Pg Qbj #[errV er] w fun e w1=>∃n,e=.returned (.int .i64 n)∧kps w1 ⟨A,0,none⟩ 0 [.int .i64 (N:Nat),.slice lb N lc,.int .i64 (N:Nat),.slice tb N tc,.slice wb N wc']
   (sts ⟨A2,0,none⟩ 0 [.int .i64 (N:Nat),.slice lb N lc,.int .i64 (N:Nat),.slice tb N tc,.slice wb N wc'] w1 fun w2=>Qaa ⟨A2,0,none⟩ w2 fun x0 xb xl xc x1 yb yl yc zb zl zc=>R (.tuple #[.agg #[.int .i64 x0,.slice xb xl xc,.int .i64 x1,.slice yb yl yc,.slice zb zl zc],.bool (n==er2)]) w2)):=by
 refine Qul r ((c_num16 hg).mono ?_)
 rintro e w1 ⟨rfl,c1⟩
 exact ⟨_,rfl,Qul (c1.row (fun h=>h) r) (cpM2 (c1.row (fun h=>h) r2) hl fun w2 c2=>k w1 w2 c1 c2)⟩
def DoB (X:Nat→Prop) (w₀ w:World) (b:Bk) (N:Nat) (v:Value) (w':World):Prop:=Chg b.ch w w'∧∃z lb lc tb tc wb wc' lv tl q B D ky W,v=.tuple #[mV N lb lc tb tc wb wc',.bool z]∧LB X w₀ w' b N lv tl q B D ky W lb tb wb
theorem c_doB {n6 n7 n8 n9 n10 n11 n12:Int} (hg:LaidG w₀) (h:LB X w₀ w b N lv tl q B D ky W lb tb wb) (hX:0≤n7∧n7<N) (hw:-2147483648≤n12∧n12≤2147483647) :
  Calls Pg Qff #[.pointer (some ⟨b.M,0,none⟩),mV N lb lc tb tc wb wc',.agg #[.int .i64 n6,.int .i64 n7,.int .i64 n8,.int .i64 n9,.int .i64 n10,.int .i64 n11,.int .i32 n12]] w fun r w'=>∃v,r=.returned v∧DoB X w₀ w b N v w':=by
 refine (Qkx _ _ _ _ _ _ _ _ _ _ _ _ _ _ _ _ _ _ _ _ (fun v' w'=>DoB X w₀ w b N v' w') ?_).mono (fun e w' k=>k)
 unfold Qjv
 have hsz:1≤N∧N≤1048576:=by have:=h.a.sz;omega
 obtain ⟨qN,cbN⟩:=h.a.cb.down h.t h.n
 refine Qa2 fun A1 w1 hA1 c1 r1=>Qa2 fun A2 w2 hA2 c2 r2=>Qa2 fun A3 w3 hA3 c3 r3=>?_
 have cc:=(c1.trans c2).trans c3
 have q1:=(c2.trans c3).row (fun h=>h) r1
 have q2:=c3.row (fun h=>h) r2
 have s1:=c1.size
 have s2:=c2.size
 have s3:=c3.size
 have l3:=r3.lt
 have hm:=h.nob cc
 have hx3:XR w3 (fun k=>(b.ch k∨X k)∨(w.heap.size≤k∧k<w3.heap.size)) N lv tl W lb tb wb:=(h.x.old (n:=w3.heap.size)).nob cc
 have hbad3:∀{w5:World},w3.heap.size≤w5.heap.size→∀k,((b.ch k∨X k)∨(w.heap.size≤k∧k<w3.heap.size))→k<w5.heap.size:=fun hs=>Qq5 h.low (by omega) (by omega)
 have hlow:=h.low
 have hlo:=h.lo
 have s0:=h.c.size
 have hp0:=hg.pos
 have nd:=cbN.mp.toND
 have hfr:∀{A},w.heap.size≤A→¬b.ch A:=fun k j=>Nat.lt_irrefl _ (Nat.lt_of_lt_of_le (hlow _ (.inl j)) k)
 have h0c:∀{k},b.ch k→¬k=0:=fun j e=>by have:=hlo _ (Bk.sub j);omega
 have fin:∀{er er2:Int} {w5 w6:World} {A4:Nat} {lb' tb' wb':Option Addr} {lc' tc' wc'':Nat} {lv':Nat→Bool} {tl':Nat→List Nat} {q':List (List Nat)} {B' D':Nat→Option (Nat × Nat)} {ky' W':Nat→Int},Chg Qac w3 w5→w3.heap.size≤A4→
   XR w5 (fun k=>(b.ch k∨X k)∨(w.heap.size≤k∧k<w3.heap.size)) N lv' tl' W' lb' tb' wb'→Row w5.heap A4 Qal [.int .i64 (N:Nat),.slice lb' N lc',.int .i64 (N:Nat),.slice tb' N tc',.slice wb' N wc'']→GS w5 w6 b (N+1) lv' tl' q' B' D' ky'→(tl' N=[]∧lv' N=false∧∀e,Laid tl' N e→e<N)→
   kps w6 ⟨A4,0,none⟩ 0 [.int .i64 (N:Nat),.slice lb' N lc',.int .i64 (N:Nat),.slice tb' N tc',.slice wb' N wc''] (Calls Pg Qbj #[errV er] w6 fun e w1=>∃n,e=.returned (.int .i64 n)∧kps w1 ⟨A4,0,none⟩ 0 [.int .i64 (N:Nat),.slice lb' N lc',.int .i64 (N:Nat),.slice tb' N tc',.slice wb' N wc'']
   (sts ⟨A3,0,none⟩ 0 [.int .i64 (N:Nat),.slice lb' N lc',.int .i64 (N:Nat),.slice tb' N tc',.slice wb' N wc''] w1 fun w2=>Qaa ⟨A3,0,none⟩ w2 fun x0 xb xl xc x1 yb yl yc zb zl zc=>DoB X w₀ w b N (.tuple #[.agg #[.int .i64 x0,.slice xb xl xc,.int .i64 x1,.slice yb yl yc,.slice zb zl zc],.bool (n==er2)]) w2)):=by
  intro er er2 w5 w6 A4 lb' tb' wb' lc' tc' wc'' lv' tl' q' B' D' ky' W' c5 hA4 hx r4 gs hk
  have c35:Chg Qac w₀ w5:=hm.c.trans c5
  have c06:Chg Qac w₀ w6:=c35.trans' gs.c fun k j=>.inr (hlo k (Bk.sub j))
  have s5:=c5.size
  refine do_tailB (hg.chg c06 fun h=>h) (gs.c.row (hfr (by omega)) r4) (gs.c.row (hfr (by omega)) (c5.row (fun h=>h) r3)) rfl fun w8 w9 c8 c9=>?_
  have s6:=gs.c.size
  have s8:=c8.size
  refine ⟨(((cc.trans c5).weak.trans gs.c).trans c8.weak).trans' c9 fun i e=>.inr (by omega),_,_,_,_,_,_,_,lv',tl',q',B',D',ky',W',rfl,(c06.trans c8).trans' c9 fun i e=>.inr (by omega),hlo,?_,?_,?_,h.xo,hk.1,hk.2.1,hk.2.2⟩
  ·refine (gs.a.nob c8).a.keep c9 fun i e j=>?_
   subst e
   have:=h.a.toMR.x.lowA i j
   omega
  ·exact (((hx.keep gs.c fun _ k=>.inl (.inl k)).nob c8).keep c9 fun i e=>.inr (by omega)).weak fun k hk=>.inl hk
  ·exact fun k j=>⟨(h.xl k j).1,by have:=(h.xl k j).2;have:=c9.size;omega⟩
 have mid:∀{w5:World} {lb' tb' wb':Option Addr} {lc' tc' wc'':Nat} {lv':Nat→Bool} {tl':Nat→List Nat} {W':Nat→Int} {K:Int→Option Addr→Nat→Nat→Int→Option Addr→Nat→Nat→Option Addr→Nat→Nat→Addr→World→Prop},Chg Qac w3 w5→
   XR w5 (fun k=>(b.ch k∨X k)∨(w.heap.size≤k∧k<w3.heap.size)) N lv' tl' W' lb' tb' wb'→
   (∀w6 A4,Chg Qac w5 w6.drew→Chg Qac w3 w6.drew→w3.heap.size≤A4→XR w6.drew (fun k=>(b.ch k∨X k)∨(w.heap.size≤k∧k<w3.heap.size)) N lv' tl' W' lb' tb' wb'→Row w6.drew.heap A4 Qal [.int .i64 (N:Nat),.slice lb' N lc',.int .i64 (N:Nat),.slice tb' N tc',.slice wb' N wc'']→K (N:Nat) lb' N lc' (N:Nat) tb' N tc' wb' N wc'' ⟨A4,0,none⟩ w6)→
   alo #[.int .i64 0,.slice none 0 0,.int .i64 0,.slice none 0 0,.slice none 0 0] Qal w5 fun a34 w35=>sts a34 0 [.int .i64 (N:Nat),.slice lb' N lc',.int .i64 (N:Nat),.slice tb' N tc',.slice wb' N wc''] w35 fun w36=>Qaa a34 w36.drew fun n xb xl xc m yb yl yc zb zl zc=>K n xb xl xc m yb yl yc zb zl zc a34 w36:=by
  intro w5 lb' tb' wb' lc' tc' wc'' lv' tl' W' K c5 hx kk
  refine Qa2 fun A4 w6 hA4 c6 r6=>Qr1 r6 rfl (by simp [oneC]) fun w7 c7 r7=>?_
  have s5:=c5.size
  have s6:=c6.size
  have l6:=r6.lt
  have c8:=(Chg.refl Qac w7).drew
  have c7:Chg (·=A4) w6 w7:=c7
  have c78:Chg (fun k=>w5.heap.size≤k∧k<w6.heap.size) w6 w7.drew:=(c7.mono (T:=fun k=>w5.heap.size≤k∧k<w6.heap.size) fun i _ e=>by omega).trans c8.weak
  have hx2:XR w7.drew (fun k=>(b.ch k∨X k)∨(w.heap.size≤k∧k<w3.heap.size)) N lv' tl' W' lb' tb' wb':=(((hx.old (n:=w6.heap.size)).nob c6).keep c78 fun i e=>.inr e).weak fun k hk=>.inl hk
  exact Qgp (c8.row (fun h=>h) r7) (kk _ _ (c6.trans' c78 fun i e=>.inr e.1) ((c5.trans c6).trans' c78 fun i e=>.inr (by omega)) (by omega) hx2 (c8.row (fun h=>h) r7))
 have one:∀{er:Int} {V:Value} {w4 w5:World} {lv':Nat→Bool} {tl':Nat→List Nat} {W':Nat→Int},AcR w4 (fun k=>(b.ch k∨X k)∨(w.heap.size≤k∧k<w3.heap.size)) N er lv lv' tl tl' W W' V w5→∃lb' tb' wb' lc' tc' wc'' lv1 tl1 W1,V=.tuple #[mV N lb' lc' tb' tc' wb' wc'',.int .i64 er]∧Chg Qac w4 w5∧XR w5 (fun k=>(b.ch k∨X k)∨(w.heap.size≤k∧k<w3.heap.size)) N lv1 tl1 W1 lb' tb' wb'∧((er≠0∧lv1=lv∧tl1=tl∧W1=W)∨(er=0∧lv1=lv'∧tl1=tl'∧W1=W')):=by
  rintro er V w4 w5 lv' tl' W' ⟨lb',lc',tb',tc',wb',wc'',rfl,k,x1,x2⟩
  by_cases he:er=0
  ·exact ⟨_,_,_,_,_,_,_,_,_,rfl,k,x2 he,.inr ⟨he,rfl,rfl,rfl⟩⟩
  ·exact ⟨_,_,_,_,_,_,_,_,_,rfl,k,x1 he,.inl ⟨he,rfl,rfl,rfl⟩⟩
 have hk0:tl N=[]∧lv N=false∧∀e,Laid tl N e→e<N:=⟨h.t,h.v,h.n⟩
 refine Qaj (n:=n6) q2 rfl ⟨by omega,Qag (fun _=>?_) fun _=>Qag (fun _=>?_) fun _=>Qag (fun _=>?_) fun _=>Qag (fun _=>?_) fun _=>?_⟩
 ·rw [Qaf]
  refine Qgp q1 (Qaj (n:=n7) q2 rfl ((Que hx3 hsz.2 (hbad3 (Nat.le_refl _))).mono ?_))
  rintro r w5 ⟨_,rfl,hac⟩
  obtain ⟨lb',tb',wb',lc',tc',wc'',lv1,tl1,W1,rfl,c5,hx5,hor⟩:=one hac
  refine ⟨_,_,_,_,_,_,_,_,_,_,_,_,rfl,mid c5 hx5 fun w6 A4 _ c6 hA4 hx6 r4=>Qaj (n:=n7) (c6.row (fun h=>h) q2) rfl ((Qq6 (hm.a.nob c6).a).mono ?_)⟩
  rintro r w7 (⟨k1,k2,k3,rfl,gs⟩ | ⟨k1,rfl,rfl⟩)
  ·have e0:aE lv N n7=0:=aE_0.2 ⟨k1,by omega,k3⟩
   obtain ⟨j,_⟩ | ⟨_,rfl,rfl,rfl⟩:=hor
   ·exact absurd e0 j
   ·exact ⟨_,rfl,fin c6 hA4 hx6 r4 gs ⟨h.t,by rw [Qak _ _ (by omega)];exact h.v,h.n⟩⟩
  ·obtain ⟨_,rfl,rfl,rfl⟩ | ⟨j,_⟩:=hor
   ·exact ⟨_,rfl,fin c6 hA4 hx6 r4 (hm.a.nob c6).a.start hk0⟩
   ·have:=aE_0.1 j
    exact absurd ⟨this.1,by omega,this.2.2⟩ k1
 ·rw [Qaf]
  refine Qgp q1 (Qaj (n:=n7) q2 rfl ((Qtp hx3 nd hsz.2 (hbad3 (Nat.le_refl _))).mono ?_))
  rintro r w5 ⟨_,rfl,hac⟩
  obtain ⟨lb',tb',wb',lc',tc',wc'',lv1,tl1,W1,rfl,c5,hx5,hor⟩:=one hac
  refine ⟨_,_,_,_,_,_,_,_,_,_,_,_,rfl,mid c5 hx5 fun w6 A4 _ c6 hA4 hx6 r4=>Qaj (n:=n7) (c6.row (fun h=>h) q2) rfl ((Qtg (hm.a.nob c6).a).mono ?_)⟩
  rintro r w7 ⟨rfl,k1,k2⟩
  have eV:vE lv (N+1) n7=vE lv N n7:=by unfold vE;rw [if_pos (show 0≤n7∧n7<((N+1:Nat):Int) by omega),if_pos hX]
  have eD:drE lv tl (N+1) n7=drE lv tl N n7:=by unfold drE;rw [eV]
  rw [eD] at k1 k2
  obtain ⟨j,rfl,rfl,rfl⟩ | ⟨j,rfl,rfl,rfl⟩:=hor
  ·obtain rfl:=k1 j
   exact ⟨_,rfl,fin c6 hA4 hx6 r4 (hm.a.nob c6).a.start hk0⟩
  ·exact ⟨_,rfl,fin c6 hA4 hx6 r4 (k2 j) ⟨h.t,by rw [Qak _ _ (by omega)];exact h.v,h.n⟩⟩
 ·have c4:Chg Qac w3 w3.drew:=(Chg.refl Qac w3).drew
  generalize w3.drew=w4 at *
  refine ⟨fun vs w'=>∃P Q p0 p1 q0 q1,vs=[.pointer (some ⟨P,0,none⟩),.pointer (some ⟨Q,0,none⟩)]∧Row w'.heap P Qat [.int .i64 p0,.int .i64 p1]∧Row w'.heap Q Qat [.int .i64 q0,.int .i64 q1]∧Chg Qac w3 w',?_,?_⟩
  ·have cor:∀{w5:World} {x y:Int} {z:Bool} {K:Int→Int→World→Prop},Chg Qac w3 w5→(∀w6 x y,Chg Qac w5 w6→Chg Qac w3 w6→K x y w6)→Calls Pg Qai #[mV N lb lc tb tc wb wc',.agg #[.int .i64 x,.int .i64 y],.bool z] w5 fun e w'=>∃x y,e=.returned (.agg #[.int .i64 x,.int .i64 y])∧K x y w':=fun {w5 x y z K} c5 k=>by
    refine (Qwt (hx3.nob c5) nd hsz.2).mono ?_
    rintro e w6 ⟨x,y,rfl,c6⟩
    exact ⟨x,y,rfl,k _ _ _ c6 (c5.trans c6)⟩
   have k2:∀{w5:World} {K:Prop},Chg Qac w3 w5→K→(w5.cell? ⟨A2,4,none⟩=some (.int .i64 n10)∧w5.cell? ⟨A2,5,none⟩=some (.int .i64 n11)∧kps w5 ⟨A1,0,none⟩ 0 [.int .i64 (N:Nat),.slice lb N lc,.int .i64 (N:Nat),.slice tb N tc,.slice wb N wc'] K):=fun {w5 K} c5 k=>by
    have p1:=c5.row (fun h=>h) q1
    have p2:=c5.row (fun h=>h) q2
    exact ⟨by rw [p2.cell];rfl,by rw [p2.cell];rfl,Qul p1 k⟩
   have k1:∀{w5:World} {K:Prop},Chg Qac w3 w5→K→(w5.cell? ⟨A2,2,none⟩=some (.int .i64 n8)∧w5.cell? ⟨A2,3,none⟩=some (.int .i64 n9)∧kps w5 ⟨A1,0,none⟩ 0 [.int .i64 (N:Nat),.slice lb N lc,.int .i64 (N:Nat),.slice tb N tc,.slice wb N wc'] K):=fun {w5 K} c5 k=>by
    have p1:=c5.row (fun h=>h) q1
    have p2:=c5.row (fun h=>h) q2
    exact ⟨by rw [p2.cell];rfl,by rw [p2.cell];rfl,Qul p1 k⟩
   have al:∀{w5:World} {K:Addr→World→Prop},Chg Qac w3 w5→(∀P w6,w5.heap.size≤P→P<w6.heap.size→Chg Qac w5 w6→Chg Qac w3 w6→Row w6.heap P Qat [.int .i64 0,.int .i64 0]→K ⟨P,0,none⟩ w6)→alo #[.int .i64 0,.int .i64 0] Qat w5 K:=fun {w5 K} c5 k=>Qa2 fun P w6 hP c6 r6=>k _ _ hP r6.lt c6 (c5.trans c6) r6
   have leaf:∀{w5:World} {P Q:Nat} {x y u v:Int},Chg Qac w3 w5→(w3.heap.size≤P∧w3.heap.size≤Q∧P≠Q)→Row w5.heap P Qat [.int .i64 0,.int .i64 0]→Row w5.heap Q Qat [.int .i64 0,.int .i64 0]→
     sto ⟨P,0,none⟩ (.int .i64 x) w5 fun w1=>sto (Addr.add ⟨P,0,none⟩ 1) (.int .i64 y) w1 fun w2=>sto ⟨Q,0,none⟩ (.int .i64 u) w2 fun w3'=>sto (Addr.add ⟨Q,0,none⟩ 1) (.int .i64 v) w3' fun w'=>∃P' Q' p0 p1 q0 q1,[Value.pointer (some ⟨P,0,none⟩),.pointer (some ⟨Q,0,none⟩)]=[.pointer (some ⟨P',0,none⟩),.pointer (some ⟨Q',0,none⟩)]∧Row w'.heap P' Qat [.int .i64 p0,.int .i64 p1]∧Row w'.heap Q' Qat [.int .i64 q0,.int .i64 q1]∧Chg Qac w3 w':=fun {w5 P Q x y u v} c5 hh rP rQ=>
    lf hh.2.2 rP rQ fun w' c6 rP' rQ'=>⟨_,_,_,_,_,_,rfl,rP',rQ',c5.trans' c6 fun i e=>.inr (by omega)⟩
   have sz:∀{w5 w6:World},Chg Qac w5 w6→w5.heap.size≤w6.heap.size:=fun c=>c.size
   rw [Qaf,Qaf,Qaf,Qaf]
   refine Qgp (c4.row (fun h=>h) q1) (Qaj (n:=n8) (c4.row (fun h=>h) q2) rfl (Qaj (n:=n9) (c4.row (fun h=>h) q2) rfl (Qgp (c4.row (fun h=>h) q1) (Qaj (n:=n10) (c4.row (fun h=>h) q2) rfl (Qaj (n:=n11) (c4.row (fun h=>h) q2) rfl ⟨?_,?_,?_⟩)))))
   ·refine cor c4 fun w5 x y _ h5=>k2 h5 ⟨cor h5 fun w6 u v _ h6=>⟨?_,?_⟩,al h5 fun P w6 hP lP _ h6 rP=>k2 h6 ⟨?_,?_⟩,al h5 fun P w6 hP lP _ h6 rP=>k2 h6 ⟨?_,?_⟩⟩
    ·exact al h6 fun P w7 hP lP _ h7 rP=>al h7 fun Q w8 hQ lQ c8 h8 rQ=>leaf h8 (by have:=sz h6;have:=sz h7;omega) (c8.row (fun h=>h) rP) rQ
    ·exact al h6 fun P w7 hP lP _ h7 rP=>al h7 fun Q w8 hQ lQ c8 h8 rQ=>leaf h8 (by have:=sz h6;have:=sz h7;omega) rQ (c8.row (fun h=>h) rP)
    ·exact cor h6 fun w7 u v c7 h7=>al h7 fun Q w8 hQ lQ c8 h8 rQ=>leaf h8 (by have:=sz h5;have:=sz h6;have:=sz c7;omega) ((c7.trans c8).row (fun h=>h) rP) rQ
    ·exact al h6 fun Q w7 hQ lQ c7 h7 rQ=>k2 h7 (cor h7 fun w8 u v c8 h8=>leaf h8 (by have:=sz h5;have:=sz h6;omega) ((c7.trans c8).row (fun h=>h) rP) (c8.row (fun h=>h) rQ))
    ·exact cor h6 fun w7 u v c7 h7=>al h7 fun Q w8 hQ lQ c8 h8 rQ=>leaf h8 (by have:=sz h5;have:=sz h6;have:=sz c7;omega) rQ ((c7.trans c8).row (fun h=>h) rP)
    ·exact al h6 fun Q w7 hQ lQ c7 h7 rQ=>k2 h7 (cor h7 fun w8 u v c8 h8=>leaf h8 (by have:=sz h5;have:=sz h6;omega) (c8.row (fun h=>h) rQ) ((c7.trans c8).row (fun h=>h) rP))
   ·refine al c4 fun P w5 hP lP _ h5 rP=>k2 h5 (k1 h5 ⟨cor h5 fun w6 x y c6 h6=>k2 h6 ⟨?_,?_⟩,al h5 fun Q w6 hQ lQ c6 h6 rQ=>k2 h6 (k1 h6 ?_)⟩)
    ·exact cor h6 fun w7 u v c7 h7=>al h7 fun Q w8 hQ lQ c8 h8 rQ=>leaf h8 (by have:=sz c4;have:=sz h6;have:=sz c6;have:=sz c7;omega) (((c6.trans c7).trans c8).row (fun h=>h) rP) rQ
    ·exact al h6 fun Q w7 hQ lQ c7 h7 rQ=>k2 h7 (cor h7 fun w8 u v c8 h8=>leaf h8 (by have:=sz c4;have:=sz c6;have:=sz h6;omega) (((c6.trans c7).trans c8).row (fun h=>h) rP) (c8.row (fun h=>h) rQ))
    ·exact cor h6 fun w7 x y c7 h7=>k2 h7 (cor h7 fun w8 u v c8 h8=>leaf h8 (by have:=sz c4;have:=sz h5;omega) (((c6.trans c7).trans c8).row (fun h=>h) rP) ((c7.trans c8).row (fun h=>h) rQ))
   ·refine al c4 fun P w5 hP lP _ h5 rP=>k2 h5 (k1 h5 ⟨cor h5 fun w6 x y c6 h6=>k2 h6 ⟨?_,?_⟩,al h5 fun Q w6 hQ lQ c6 h6 rQ=>k2 h6 (k1 h6 ?_)⟩)
    ·exact cor h6 fun w7 u v c7 h7=>al h7 fun Q w8 hQ lQ c8 h8 rQ=>leaf h8 (by have:=sz c4;have:=sz h6;have:=sz c6;have:=sz c7;omega) rQ (((c6.trans c7).trans c8).row (fun h=>h) rP)
    ·exact al h6 fun Q w7 hQ lQ c7 h7 rQ=>k2 h7 (cor h7 fun w8 u v c8 h8=>leaf h8 (by have:=sz c4;have:=sz c6;have:=sz h6;omega) (c8.row (fun h=>h) rQ) (((c6.trans c7).trans c8).row (fun h=>h) rP))
    ·exact cor h6 fun w7 x y c7 h7=>k2 h7 (cor h7 fun w8 u v c8 h8=>leaf h8 (by have:=sz c4;have:=sz h5;omega) ((c7.trans c8).row (fun h=>h) rQ) (((c6.trans c7).trans c8).row (fun h=>h) rP))
  ·rintro _ p q' w5 ⟨P,Q,u0,u1,v0,v1,hvs,rP,rQ,c5⟩
   simp only [List.cons.injEq,Value.pointer.injEq,and_true] at hvs
   obtain ⟨rfl,rfl⟩:=hvs
   have m1:=c5.row (fun h=>h) q1
   have m2:=c5.row (fun h=>h) q2
   rw [Qaf,Qaf]
   refine Qgp m1 (Qaj (n:=n7) m2 rfl (pt_i ?_))
   rw [Qaf]
   refine Qaj (n:=u0) rP rfl (Qaj (n:=u1) rP rfl (pt_i ?_))
   rw [Qaf]
   refine Qaj (n:=v0) rQ rfl (Qaj (n:=v1) rQ rfl (Qaj (n:=n12) m2 rfl ((r_Join (hx3.nob c5) cbN hsz.1 hsz.2 (hbad3 c5.size)).mono ?_)))
   rintro r w6 ⟨_,rfl,hac⟩
   obtain ⟨lb',tb',wb',lc',tc',wc'',lv1,tl1,W1,rfl,c6,hx6,hor⟩:=one hac
   refine ⟨_,_,_,_,_,_,_,_,_,_,_,_,rfl,mid (c5.trans c6) hx6 fun w7 A4 c67 c7 hA4 hx7 r4=>?_⟩
   have m2:=c7.row (fun h=>h) q2
   have c57:=c6.trans c67
   have rP:=c57.row (fun h=>h) rP
   have rQ:=c57.row (fun h=>h) rQ
   refine Qaj (n:=n7) m2 rfl (pt_i (Qhj (i:=0) (by omega) (Qaj (n:=u0) rP rfl (pt_i (Qhj (i:=1) (by omega) (Qaj (n:=u1) rP rfl (pt_i (Qhj (i:=0) (by omega) (Qaj (n:=v0) rQ rfl (pt_i (Qhj (i:=1) (by omega) (Qaj (n:=v1) rQ rfl (Qaj (n:=n12) m2 rfl ((Qy5 (hm.a.nob c7).a hw).mono ?_))))))))))))))
   rintro r w8 ⟨rfl,k1,k2⟩
   obtain ⟨j,rfl,rfl,rfl⟩ | ⟨j,rfl,rfl,rfl⟩:=hor
   ·exact ⟨_,rfl,fin c7 hA4 hx7 r4 (k1 fun j2=>j ((jE_up cbN.mp h.t h.v hX).1 j2)) hk0⟩
   ·obtain ⟨q',B',D',gs⟩:=k2 ((jE_up cbN.mp h.t h.v hX).2 j)
    obtain ⟨j1,j2⟩:=jE_0 j
    refine ⟨_,rfl,fin c7 hA4 hx7 r4 gs ⟨?_,h.v,fun i hi=>?_⟩⟩
    ·unfold lay
     rw [Qoq (by omega),Qoq (by omega)];exact h.t
    ·rcases (Qi7 j1 j2).1 hi with k | k | k
     ·omega
     ·omega
     ·exact h.n i k
 ·rw [Qaf]
  refine Qgp q1 (Qaj (n:=n7) q2 rfl ((r_Part hx3 cbN.mp hsz.2 (hbad3 (Nat.le_refl _))).mono ?_))
  rintro r w5 ⟨_,rfl,hac⟩
  obtain ⟨lb',tb',wb',lc',tc',wc'',lv1,tl1,W1,rfl,c5,hx5,hor⟩:=one hac
  refine ⟨_,_,_,_,_,_,_,_,_,_,_,_,rfl,mid c5 hx5 fun w6 A4 _ c6 hA4 hx6 r4=>Qaj (n:=n7) (c6.row (fun h=>h) q2) rfl ((Qy4 (hm.a.nob c6).a).mono ?_)⟩
  rintro r w7 ⟨rfl,k1,k2⟩
  have eP:eE tl (N+1) n7=eE tl N n7:=by unfold eE;rw [if_pos (show 0≤n7∧n7<((N+1:Nat):Int) by omega),if_pos hX];simp only [Qmg h.t]
  rw [eP] at k1 k2
  obtain ⟨j,rfl,rfl,rfl⟩ | ⟨j,rfl,rfl,rfl⟩:=hor
  ·obtain rfl:=k1 j
   exact ⟨_,rfl,fin c6 hA4 hx6 r4 (hm.a.nob c6).a.start hk0⟩
  ·obtain ⟨q',B',D',gs,_⟩:=k2 j
   rw [lift_up h.t] at gs
   obtain ⟨e',he1,_,hl⟩:=eE_0 j
   subst he1
   rw [Int.toNat_natCast] at gs hx6
   refine ⟨_,rfl,fin c6 hA4 hx6 r4 gs ⟨?_,h.v,fun i hi=>h.n i ?_⟩⟩
   ·have sub:∀{tl:Nat→List Nat} {v d:Nat},tl N=[]→lift1 tl v d N=[]:=fun {tl v d} j=>by
     by_cases hxv:N=v
     ·subst hxv;rw [Qos,j];rfl
     ·rw [Qrg hxv];exact j
    exact sub (sub h.t)
   ·unfold Laid at hi
    rw [(cbN.mp.liftM hl).2] at hi
    exact hi.2.2
 ·rw [Qaf,Qaf]
  refine Qgp q1 (Qaj (n:=n7) q2 rfl (Qaj (n:=n12) q2 rfl ((r_Weigh hx3 nd hsz.2 (hbad3 (Nat.le_refl _))).mono ?_)))
  rintro r w5 ⟨_,rfl,hac⟩
  obtain ⟨lb',tb',wb',lc',tc',wc'',lv1,tl1,W1,rfl,c5,hx5,hor⟩:=one hac
  refine ⟨_,_,_,_,_,_,_,_,_,_,_,_,rfl,mid c5 hx5 fun w6 A4 _ c6 hA4 hx6 r4=>Qaj (n:=n7) (c6.row (fun h=>h) q2) rfl (Qaj (n:=n12) (c6.row (fun h=>h) q2) rfl ((Qvu (hm.a.nob c6).a hw).mono ?_))⟩
  rintro r w7 ⟨rfl,k1,k2⟩
  have eP:eE tl (N+1) n7=eE tl N n7:=by unfold eE;rw [if_pos (show 0≤n7∧n7<((N+1:Nat):Int) by omega),if_pos hX];simp only [Qmg h.t]
  rw [eP] at k1 k2
  obtain ⟨j,rfl,rfl,rfl⟩ | ⟨j,rfl,rfl,rfl⟩:=hor
  ·obtain rfl:=k1 j
   exact ⟨_,rfl,fin c6 hA4 hx6 r4 (hm.a.nob c6).a.start hk0⟩
  ·obtain ⟨B',D',gs⟩:=k2 j
   exact ⟨_,rfl,fin c6 hA4 hx6 r4 gs hk0⟩
end
end Core
end Go.Proofs.YtpmicakdjhoafaaGreatDoor
