import Derived.Test.YtfeekmmfdkfgmaaGreatDoorHflat
import Derived.Test.YtfeekmmfdkfgmaaGreatDoorHplane
import Derived.Test.YtfeekmmfdkfgmaaGreatDoorHsh
import Derived.Shelf.SlSortCmp.NoneTotal
import Derived.Shelf.Lay
import Derived.Ground.SlsfProg
import Derived.Test.YtfeekmmfdkfgmaaGreatDoorGLawC
/-
All faces of a new map made (layer 16's program).
Conditions: those that each theorem states.
-/
set_option linter.unusedVariables false
set_option linter.unusedSimpArgs false
namespace Go.Proofs.YtfeekmmfdkfgmaaGreatDoor
open Go Go.RowKit
set_option linter.unnecessarySimpa false
namespace Core
set_option linter.ambiguousOpen false
open Seq Cut Web
section
variable {w w':World} {b:Bk} {T TD TL TM N:Nat} {E:Int} {lv:Nat→Bool} {tl:Nat→List Nat} {q q':List (List Nat)} {B D:Nat→Option (Nat × Nat)} {ky:Nat→Int}
theorem TB.tv {h:Array Obj} (k:TB h T TD TL TM N tl) (hN:N≤1048576) (h1:1≤N) (hb:∀v,N≤v→tl v=[]):TV h T TD TL TM N N N tl:=by
 obtain ⟨o,nx,pv,ls,ms,r,q⟩:=k
 exact ⟨o,nx,pv,ls,ms,⟨r.r,r.d,r.l,r.m,r.ne⟩,q,⟨⟨h1,Nat.le_refl _⟩,⟨h1,Nat.le_refl _⟩,hN,hb,fun d hd=>q.nd.lt d hd⟩⟩
theorem Zhi (h:MX w.heap b N lv tl q (fun _=>none) (fun _=>none) ky E) (hM:MP N tl) (hb:∀v,N≤v→tl v=[]) (hf:FQ id q) (hl:∀a c,LK q (fun _=>none) a c↔a=c) :
  Calls Pg 65 #[.pointer (some ⟨b.M,0,none⟩)] w fun r w'=>r=.returned (errV 0)∧∃q',XS w w' b N lv tl q' (fun _=>none) (fun _=>none) ky E∧FQ (ph tl N) q':=by
 refine (Qvd _ _ (fun v' w'=>v'=errV 0∧∃q',XS w w' b N lv tl q' (fun _=>none) (fun _=>none) ky E∧FQ (ph tl N) q') ?_).mono rti
 unfold Qpx nr
 have hsz:=h.sz
 refine pt_i ?_
 rw [Qad]
 refine Qav h.r rfl ((Zl3 (h.t.tv hsz.2 hsz.1 hb) hM).mono ?_)
 rintro r w4 ⟨fb,l,fc,X,rfl,c4,tf,hlN,hX,hd⟩
 refine ⟨_,_,_,rfl,?_⟩
 have low:=h.low
 have hinl:∀{j},j<l→∃x R,X j=x::R∧(X j).length≤2*N:=fun {j} hj=>by
  obtain ⟨d,o⟩:=hX.o j hj
  have h0:=o.h
  cases e:X j with
  | nil=>rw [e] at h0;cases h0
  | cons x R=>exact ⟨x,R,rfl,by rw [←e];exact o.len hM.toND⟩
 have hdl:∀{j x},j<l→x∈X j→x<2*N:=fun {j x} hj hx=>by
  obtain ⟨d,o⟩:=hX.o j hj
  exact hM.lt x (o.m x hx)
 let J:Nat→List Value→World→Prop:=fun jj us w'=>∃(j:Nat) (q':List (List Nat)),us=[.int .i64 j]∧j≤l∧XS w4 w' b N lv tl q' (fun _=>none) (fun _=>none) ky E∧FM tl N X j [] q'∧jj=l-j
 refine ⟨LI J,LM J,⟨_,0,q,rfl,by omega,(h.nob c4).start,FM.start hf hl,rfl⟩,?_⟩
 intro _ j w9 hJ
 obtain ⟨j,q1,hvs,hj,xs,fm,hjj⟩:=hJ.at
 simp only [vj] at hvs
 subst hvs
 refine Qac (fun hlt=>?_) (fun hlt=>?_)<;>simp only [b1s] at hlt
 ·have hjl:j<l:=by omega
  obtain ⟨x,R,eX,hlen⟩:=hinl hjl
  have tf9:=tf.keep xs.c fun k hk=>low k hk
  refine tf9.rd hjl fun eb ec va ok hc=>?_
  rw [eX] at va ok hc ⊢
  rw [eX] at hlen
  simp only [List.length_cons] at hlen
  refine ⟨by omega,by simp;omega,?_⟩
  let J2:Nat→List Value→World→Prop:=fun jj us w'=>∃(k:Nat) (q':List (List Nat)),us=[.int .i64 k]∧k≤R.length∧XS w9 w' b N lv tl q' (fun _=>none) (fun _=>none) ky E∧FM tl N X j (x::R.take k) q'∧jj=R.length-k
  refine ⟨LI J2,LM J2,⟨_,0,q1,rfl,by omega,xs.a.start,by simpa using fm.first,rfl⟩,?_⟩
  intro _ k w15 hJ2
  obtain ⟨k,q2,hvs,hk,xs2,fm2,hjj2⟩:=hJ2.at
  simp only [vj] at hvs
  subst hvs
  have va15:VA w15 eb (x::R).length 1 (ivs (x::R)):=va.keep xs2.c fun g hg hb2 hch=>ok g hg hb2 (low g hch)
  have hdr:VA w15 (if ec=1 then eb else Option.map (fun a=>Addr.add a (1*1)) eb) R.length 1 (ivs R):=Q55 va15 (by simp) hc
  refine Qac (fun hlt2=>?_) (fun hlt2=>?_)
  ·have hkR:k<R.length:=by
    have:=of_decide_eq_true hlt2
    simp at this;omega
   obtain ⟨y,hy⟩:∃y,R[k]?=some y:=⟨_,List.getElem?_eq_getElem hkR⟩
   have eR:R=R.take k++y::R.drop (k+1):=by
    have h1:R[k]::R.drop (k+1)=R.drop k:=List.getElem_cons_drop hkR
    have h2:R[k]=y:=by rw [List.getElem?_eq_getElem hkR] at hy;exact Option.some.inj hy
    rw [h2] at h1
    rw [h1,List.take_append_drop]
   have eX2:X j=x::R.take k++y::R.drop (k+1):=by rw [eX];simp only [List.cons_append];rw [←eR]
   have hxN:=hdl hjl (x:=x) (by rw [eX];simp)
   have hyN:=hdl hjl (x:=y) (by rw [eX2];simp)
   have key:=rdI (K:=fun n17=>pt (some ⟨b.M,0,none⟩) fun a18=>ldP (a18.add 3) w15.drew fun p19=>ixS eb (x::R).length (0:Int) 1 fun a20=>ldI .i64 a20 w15.drew fun n21=>Calls Pg 150 #[.pointer p19,.int .i64 n21,.int .i64 n17] w15.drew fun e24 w23=>∃v22,e24=.returned v22∧isI v22∧bif (!(nilI v22)) then (v22=errV 0∧∃q',XS w w23 b N lv tl q' (fun _=>none) (fun _=>none) ky E∧FQ (ph tl N) q') else (LI J2 [.int .i64 (IntKind.wrap .i64 ((k:Int)+1))] w23∧LM J2 [.int .i64 (IntKind.wrap .i64 ((k:Int)+1))] w23<LM J2 [.int .i64 (k:Nat)] w15)) hdr hy ?_
   ·exact key
   ·refine pt_i ?_
    rw [Qad]
    have c15:Chg Qaa w15 w15.drew:=(Chg.refl _ _).drew
    have h15:=xs2.a.nob c15
    refine Qav h15.r rfl (rdI (j:=0) (va15.nob c15) rfl ((Qqv h15 (by omega) (by omega) (fm2.apart hX hjl eX2)).mono ?_))
    rintro r w23 ⟨rfl,q3,xs3,mg⟩
    refine ⟨_,rfl,Qaj (fun e=>absurd rfl e) (fun _=>?_)⟩
    rw [wrap64_in (by omega) (by omega)]
    refine LI.again (k:=R.length-(k+1)) ⟨k+1,q3,rfl,by omega,(xs2.nob c15).trans xs3,?_,rfl⟩ (by rw [hjj2];omega)
    have:=fm2.more hX hM hjl eX2 mg
    have e2:x::R.take k++[y]=x::R.take (k+1):=by rw [List.take_add_one,hy];rfl
    rwa [e2] at this
  ·have hkR:k=R.length:=by
    have:=of_decide_eq_false hlt2
    simp at this;omega
   subst hkR
   rw [List.take_length,←eX] at fm2
   rw [wrap64_in (by omega) (by omega)]
   exact LI.again (k:=l-(j+1)) ⟨j+1,q2,rfl,by omega,xs.trans xs2,fm2.last hX hjl,rfl⟩ (by rw [hjj];omega)
 ·obtain rfl:j=l:=by omega
  exact ⟨rfl,q1,⟨c4.weak.trans xs.c,xs.a⟩,fm.all hX⟩
end
end Core
end Go.Proofs.YtfeekmmfdkfgmaaGreatDoor
namespace Go.Proofs
open Go.Shelf
shelf_lay_g SlLaysF.n6 Slsf 6 at Tryz 268 as SpnSort
end Go.Proofs
namespace Go.Proofs.YtfeekmmfdkfgmaaGreatDoor
open Go Go.RowKit
set_option linter.unnecessarySimpa false
namespace Core
set_option linter.ambiguousOpen false
open Seq Cut Web
open Go.Shelf Go.Lib Go.Sort
def cmpI (x y:Int):Int:=if x<y then -1 else if y<x then 1 else 0
section
variable {w w':World} {n:Nat} {EA EB:Nat→Nat} {W:Nat→Int} {b:Option Addr} {c:Nat}
theorem Zi6 {x y:Int}:Calls Pg 271 #[.int .i32 x,.int .i32 y] w fun r w'=>r=.returned (.int .i64 (cmpI x y))∧w'=w:=by
 refine (Qra _ _).go ?_
 unfold Qkj nr
 have nn:∀(z:Int) (w:World),Calls Pg 302 #[.int .i32 z] w fun r w'=>r=.returned (.bool false)∧w'=w:=fun z w=>by
  refine (Qud _).go ?_
  unfold Qnr nr
  exact ⟨by simp,rfl⟩
 refine (nn x w).mono ?_
 rintro r w3 ⟨rfl,rfl⟩
 refine ⟨_,rfl,(nn y w3).mono ?_⟩
 rintro r w6 ⟨rfl,rfl⟩
 refine ⟨_,rfl,Qac (fun k=>by cases k) (fun _=>Qac (fun k=>by cases k) (fun _=>Qac (fun k=>?_) (fun k=>Qac (fun k2=>?_) (fun k2=>?_))))⟩<;>simp only [b1s] at *
 ·exact ⟨by unfold cmpI;rw [if_pos k],trivial⟩
 ·exact ⟨by unfold cmpI;rw [if_neg k,if_pos k2],trivial⟩
 ·exact ⟨by unfold cmpI;rw [if_neg k,if_neg k2],trivial⟩
theorem Zm2 {x y:Int}:Calls Pg 272 #[.int .i64 x,.int .i64 y] w fun r w'=>r=.returned (.int .i64 (cmpI x y))∧w'=w:=by
 refine (Que _ _).go ?_
 unfold Qns nr
 have nn:∀(z:Int) (w:World),Calls Pg 303 #[.int .i64 z] w fun r w'=>r=.returned (.bool false)∧w'=w:=fun z w=>by
  refine (Qw1 _).go ?_
  unfold Qrm nr
  exact ⟨by simp,rfl⟩
 refine (nn x w).mono ?_
 rintro r w3 ⟨rfl,rfl⟩
 refine ⟨_,rfl,(nn y w3).mono ?_⟩
 rintro r w6 ⟨rfl,rfl⟩
 refine ⟨_,rfl,Qac (fun k=>by cases k) (fun _=>Qac (fun k=>by cases k) (fun _=>Qac (fun k=>?_) (fun k=>Qac (fun k2=>?_) (fun k2=>?_))))⟩<;>simp only [b1s] at *
 ·exact ⟨by unfold cmpI;rw [if_pos k],trivial⟩
 ·exact ⟨by unfold cmpI;rw [if_neg k,if_pos k2],trivial⟩
 ·exact ⟨by unfold cmpI;rw [if_neg k,if_neg k2],trivial⟩
theorem k_Or {A:Nat} {x y:Int} (r:Row w.heap A 3 [.int .i64 x,.int .i64 y]):Calls Pg 270 #[.slice (some ⟨A,0,none⟩) 2 2] w fun r w'=>r=.returned (.int .i64 (if x≠0 then x else y))∧w'=w:=by
 refine (Q0i _ _ _).go ?_
 unfold Qxg nr
 let J:Nat→List Value→World→Prop:=fun j us w'=>∃i:Nat,us=[.int .i64 i]∧i≤2∧(1≤i→x=0)∧(2≤i→y=0)∧w'=w∧j=2-i
 refine ⟨LI J,LM J,⟨_,0,rfl,by omega,fun h=>by omega,fun h=>by omega,rfl,rfl⟩,?_⟩
 intro _ i w4 hJ
 obtain ⟨i,hvs,hi,h1,h2,rfl,hj⟩:=hJ.at
 simp only [vj] at hvs
 subst hvs
 refine Qac (fun hlt=>?_) (fun hlt=>?_)<;>simp only [b1s] at hlt
 ·refine Qat (by omega) ?_
  rw [Nat.zero_add,Nat.mul_one]
  rcases (by omega:i=0∨i=1) with rfl | rfl
  ·refine Qaf (n:=x) r rfl (Qac (fun k=>?_) (fun k=>?_))<;>simp only [b1s] at k
   ·exact ⟨by rw [if_pos k],rfl⟩
   ·exact LI.again (k:=1) ⟨1,rfl,by omega,fun _=>k,fun h=>by omega,rfl,rfl⟩ (by rw [hj];omega)
  ·have hx:=h1 (by omega)
   refine Qaf (n:=y) r rfl (Qac (fun k=>?_) (fun k=>?_))<;>simp only [b1s] at k
   ·exact ⟨by rw [if_neg (by omega)],rfl⟩
   ·exact LI.again (k:=0) ⟨2,rfl,by omega,fun _=>hx,fun _=>k,rfl,rfl⟩ (by rw [hj];omega)
 ·have hx:=h1 (by omega)
  have hy:=h2 (by omega)
  exact ⟨by rw [if_neg (by omega),hy],rfl⟩
def edc (EA EB:Nat→Nat) (W:Nat→Int) (i:Nat):List Value:=[.int .i64 (EA i:Nat),.int .i64 (EB i:Nat),.int .i32 (W i)]
theorem Zjn (x:Nat):(edc EA EB W x).length=3:=rfl
theorem Qta {x k:Nat} (hx:x<n) (hk:k<3):(recs (edc EA EB W) n)[x*3+k]?=(edc EA EB W x)[k]?:=Qdb _ Zjn hx hk
def cfE (W:Nat→Int) (x y:Nat):Int:=if cmpI (W x) (W y)≠0 then cmpI (W x) (W y) else cmpI (x:Nat) (y:Nat)
theorem Zmd {x y:Nat}:cfE W x y<0↔W x<W y∨(W x=W y∧x<y):=by
 unfold cfE cmpI
 rcases Int.lt_trichotomy (W x) (W y) with h | h | h
 ·simp [h]
 ·rw [h]
  simp only [Int.lt_irrefl,if_false,ne_eq,not_true_eq_false,false_or,true_and]
  by_cases h1:(x:Int)<(y:Int)
  ·rw [if_pos h1];omega
  ·rw [if_neg h1]
   by_cases h2:(y:Int)<(x:Int)
   ·rw [if_pos h2];omega
   ·rw [if_neg h2];omega
 ·have h1:¬W x<W y:=by omega
  simp only [if_neg h1,if_pos h]
  simp;omega
theorem Zbj {A1 x y:Nat} (r:Row w.heap A1 238 [.slice b n c]) (va:VA w b n 3 (recs (edc EA EB W) n)) (hx:x<n) (hy:y<n) :
  Calls Pg 269 #[.int .i64 (x:Nat),.int .i64 (y:Nat),.pointer (some ⟨A1,0,none⟩)] w fun r w'=>r=.returned (.int .i64 (cfE W x y))∧∃q os,w'=grow (w.drewN q) os:=by
 refine (Qwu _ _ _).go ?_
 unfold Qrf nr
 have r1:Row w.drew.heap A1 238 [.slice b n c]:=r
 refine pt_i (Qai r1 rfl (va.drew.ix hx fun g o e cs rg _ hc=>?_))
 rw [Qad]
 refine Qaf (n:=W x) rg (by rw [hc 2 (by omega)];exact Qta (k:=2) hx (by omega)) (pt_i (Qai r1 rfl (va.drew.ix hy fun g2 o2 e2 cs2 rg2 _ hc2=>?_)))
 rw [Qad]
 refine Qaf (n:=W y) rg2 (by rw [hc2 2 (by omega)];exact Qta (k:=2) hy (by omega)) (Zi6.mono ?_)
 rintro r w12 ⟨rfl,rfl⟩
 refine ⟨_,rfl,Zm2.mono ?_⟩
 rintro r w15 ⟨rfl,rfl⟩
 refine ⟨_,rfl,Qal fun r17=>(k_Or r17).mono ?_⟩
 rintro r w20 ⟨rfl,rfl⟩
 exact ⟨_,rfl,rfl,1,#[_],alloc_eq_grow _ _⟩
theorem Q8s {α:Type} [Inhabited α] {enc:α→Value} {blk off m:Nat} {dk:Array α} {os:Array Obj} (hb:blk<w.heap.size):Chg (·=blk) w (sortWorld enc w blk off m dk os):=by
 refine ⟨rfl,rfl,rfl,?_,fun k hk hne=>?_⟩
 ·show w.heap.size≤(grow (putRow enc (Go.Sort.ahead w m) blk off dk) os).heap.size
  rw [size_grow,size_putRow];exact Nat.le_add_right _ _
 ·show (grow (putRow enc (Go.Sort.ahead w m) blk off dk) os).heap[k]?=_
  rw [heap_grow_old _ _ (by rw [size_putRow];exact hk)]
  show (w.heap.modify blk _)[k]?=_
  rw [Array.getElem?_modify,if_neg (fun e=>hne e.symm)]
theorem Zdw {α:Type} [Inhabited α] {enc:α→Value} {blk m:Nat} {e:TypeId} {cs:List Value} {dk:Array α} {os:Array Obj} (r:Row w.heap blk e cs) (hl:cs.length=dk.size):Row (sortWorld enc w blk 0 m dk os).heap blk e (dk.toList.map enc):=by
 show (grow (putRow enc (Go.Sort.ahead w m) blk 0 dk) os).heap[blk]?=_
 rw [heap_grow_old _ _ (by rw [size_putRow];exact r.lt)]
 show (w.heap.modify blk _)[blk]?=_
 rw [Array.getElem?_modify,if_pos rfl]
 have:w.heap[blk]?=_:=r
 rw [this]
 show some (Obj.cells _ e (0,0))=_
 congr 2
 apply Array.toList_inj.1
 apply List.ext_getElem?
 intro k
 simp only [putCells,Array.toList_mapIdx,List.getElem?_mapIdx,List.getElem?_map]
 rcases Nat.lt_or_ge k dk.size with h | h
 ·rw [List.getElem?_eq_getElem (l:=cs) (by omega),List.getElem?_eq_getElem (l:=dk.toList) (by simpa using h)]
  simp [h]
 ·rw [List.getElem?_eq_none (l:=cs) (by omega),List.getElem?_eq_none (l:=dk.toList) (by simpa using h)]
  simp
end
section
variable {w w':World} {n:Nat} {EA EB:Nat→Nat} {W:Nat→Int} {b:Option Addr} {c:Nat}
theorem Zer (va:VA w b n 3 (recs (edc EA EB W) n)) (hn:n≤1048576):Calls Pg 224 #[.slice b n c] w fun r w'=>∃blk o,r=.returned (.slice (some ⟨blk,0,none⟩) n n)∧Chg Qaa w w'∧w.heap.size≤blk∧Row w'.heap blk 3 (ivs o)∧o.Perm (List.range n)∧o.Pairwise fun i j=>W i<W j∨(W i=W j∧i<j):=by
 refine (Qy9 _ _ _).go ?_
 unfold Qvk nr
 refine Qak fun A1 w2 hA1 c2 r2=>Qai r2 rfl ⟨by omega,Int.le_refl _,by omega,Qak fun A4 w5 hA4 c5 r5=>?_⟩
 rw [Int.toNat_natCast] at r5 ⊢
 rw [Qas] at r5
 have s2:=c2.size
 have s5:=c5.size
 have hA1lt:=r2.lt
 have hA4lt:=r5.lt
 let J:Nat→List Value→World→Prop:=fun jj us w'=>∃i:Nat,us=[.int .i64 i]∧i≤n∧Chg (fun k=>k=A4) w5 w'∧Row w'.heap A4 3 (recs (fun x=>[.int .i64 (if x<i then (x:Nat) else 0:Nat)]) n)∧jj=n-i
 refine ⟨LI J,LM J,⟨_,0,rfl,by omega,Chg.refl _ _,by simpa using r5,rfl⟩,?_⟩
 intro _ i w9 hJ
 obtain ⟨i,hvs,hi,ck,rk,hj⟩:=hJ.at
 simp only [vj] at hvs
 subst hvs
 refine Qac (fun hlt=>?_) (fun hlt=>?_)<;>simp only [b1s] at hlt
 ·have hin:i<n:=by omega
  refine Qat hin ?_
  rw [Nat.zero_add,Nat.mul_one,wrap64_in (by omega) (by omega)]
  refine Qao rk (by rw [Qah (sz:=1) _ (fun _=>rfl)];omega) rfl fun w11 c11 r11=>?_
  have e:=Qca (k:=0) (sz:=1) (fun x=>[Value.int .i64 (if x<i then (x:Nat) else 0:Nat)]) (fun _=>rfl) (g:=fun x=>[Value.int .i64 (if x<i+1 then (x:Nat) else 0:Nat)]) (v:=.int .i64 (i:Nat)) hin (by omega) (fun j hj=>by
   show [Value.int .i64 _]=[Value.int .i64 _]
   by_cases h:j<i
   ·rw [if_pos h,if_pos (by omega)]
   ·rw [if_neg h,if_neg (by omega)]) (by show [Value.int .i64 _]=[Value.int .i64 _];rw [if_pos (by omega)])
  rw [Nat.mul_one,Nat.add_zero] at e
  rw [e] at r11
  exact LI.again (k:=n-(i+1)) ⟨i+1,rfl,by omega,ck.trans c11,r11,rfl⟩ (by rw [hj];omega)
 ·obtain rfl:i=n:=by omega
  have e0:recs (fun x=>[Value.int .i64 (if x<i then (x:Nat) else 0:Nat)]) i=ivs (List.range i):=by
   rw [Qbb (f:=fun x=>[Value.int .i64 (if x<i then (x:Nat) else 0:Nat)]) (g:=fun x=>[Value.int .i64 (x:Nat)]) fun x hx=>by rw [if_pos hx]]
   unfold recs ivs
   exact (List.map_eq_flatMap ..).symm
  rw [e0] at rk
  have c9:Chg Qaa w w9:=(c2.trans c5).trans' ck fun k e=>.inr (by omega)
  have r9:Row w9.heap A1 238 [.slice b i c]:=ck.row (by omega) (c5.row (fun h=>h) r2)
  by_cases h0:i=0
  ·subst h0
   have hS:=fun W=>AnyF.slices_SortFunc_none (P:=Tryz.prog) (ρ:=SpnSort_ren) {SpnSort with} (some ⟨A4,0,none⟩) 0 (.func (.func 269) #[] #[.pointer (some ⟨A1,0,none⟩)]) W
   change ∀W,Calls Pg 268 _ _ _ at hS
   refine (hS w9).mono ?_
   rintro r w12 ⟨rfl,rfl⟩
   exact ⟨rfl,A4,[],rfl,c9,by omega,rk,by simp,List.Pairwise.nil⟩
  ·have:Inhabited (Fin i):=⟨⟨0,by omega⟩⟩
   let enc:Fin i→Value:=fun x=>.int .i64 (x.val:Nat)
   let cf:Fin i→Fin i→Int:=fun x y=>cfE W x.val y.val
   have hlt2:∀x y,ltOf cf x y=true↔W x.val<W y.val∨(W x.val=W y.val∧x.val<y.val):=fun x y=>by
    show decide (cfE W x.val y.val<0)=true↔_
    rw [decide_eq_true_iff];exact Zmd
   have hlf:∀x y,ltOf cf x y=false↔¬(W x.val<W y.val∨(W x.val=W y.val∧x.val<y.val)):=fun x y=>by
    rw [←hlt2,Bool.not_eq_true]
   have hO:SWO (ltOf cf):=by
    refine ⟨fun x=>(hlf x x).2 (by omega),fun x y z h1 h2=>?_,fun x y z h1 h2=>?_⟩
    ·rw [hlt2] at *;omega
    ·rw [hlf] at *;omega
   have hT:∀x y,(ltOf cf) x y=false→(ltOf cf) y x=false→x=y:=fun x y h1 h2=>by
    rw [hlf] at h1 h2
    exact Fin.ext (by omega)
   let d:Array (Fin i):=Array.ofFn id
   have hds:d.size=i:=by simp [d]
   have eg:∀args w,(callFunc 269 args).run Pg w=.ok (.enter 269 args) w:=enters_of Tryz.func269 (by kernel_rfl) rfl
   have hcmp:CmpLays1 Pg 269 #[.pointer (some ⟨A1,0,none⟩)] enc cf A4 0 d.size w9:=fun m os dk hk x y=>by
    have cs:=Q8s (enc:=enc) (off:=0) (m:=m) (dk:=dk) (os:=os) (show A4<w9.heap.size by have:=ck.size;omega)
    have hva:VA w9 b i 3 (recs (edc EA EB W) i):=va.nob c9
    have key:=Zbj (x:=x.val) (y:=y.val) (cs.row (by omega) r9) (hva.keep cs fun g hg hb e=>by
     subst e
     obtain ⟨g',e',hlt'⟩:=va.blk hg
     rw [e'] at hb
     have:g'=g:=Option.some.inj hb
     omega) x.isLt y.isLt
    exact key
   have hH:Go.Sort.Holds enc w9 A4 0 d:=fun j hj=>by
    have hji:j<i:=by omega
    refine ⟨?_,rk.frozen _⟩
    rw [rk.cell,Nat.zero_add]
    unfold ivs
    rw [List.getElem?_map,List.getElem?_range hji]
    simp [d,enc,hji]
   have hS:=Any.slices_SortFunc_total SpnSort enc (fun _=>rfl) cf hO 269 #[.pointer (some ⟨A1,0,none⟩)] A4 0 i d w9 eg hcmp hH (by have:=ck.size;omega) (by omega) hT
   rw [hds] at hS
   change Calls Pg 268 _ _ _ at hS
   refine hS.mono ?_
   rintro r w12 ⟨rfl,m,os,rfl⟩
   have hp:(d.toList.mergeSort fun x y=>!(ltOf cf) y x).Perm d.toList:=List.mergeSort_perm _ _
   have hs:(d.toList.mergeSort fun x y=>!(ltOf cf) y x).Pairwise fun x y=>(!(ltOf cf) y x)=true:=List.pairwise_mergeSort (fun a b c h1 h2=>by
    rw [Bool.not_eq_true'] at *
    rw [hlf] at *;omega) (fun a b=>by
    rw [Bool.or_eq_true,Bool.not_eq_true',Bool.not_eq_true',hlf,hlf];omega) _
   generalize (d.toList.mergeSort fun x y=>!(ltOf cf) y x)=o at *
   have hdl:d.toList.map (·.val)=List.range i:=by
    apply List.ext_getElem?
    intro k
    rw [List.getElem?_map]
    rcases Nat.lt_or_ge k i with h | h
    ·rw [List.getElem?_range h];simp [d,h]
    ·rw [List.getElem?_eq_none (by simp;omega)];simp [d,h]
   have hpm:(o.map (·.val)).Perm (List.range i):=hdl ▸ hp.map _
   have hlen:o.length=i:=by rw [hp.length_eq];simp [d]
   have cs:=Q8s (enc:=enc) (off:=0) (m:=m) (dk:=o.toArray) (os:=os) (show A4<w9.heap.size by have:=ck.size;omega)
   have rs:=Zdw (enc:=enc) (m:=m) (dk:=o.toArray) (os:=os) rk (by simp [ivs,hlen])
   refine ⟨rfl,A4,o.map (·.val),rfl,c9.trans' cs fun k e=>.inr (by omega),by omega,?_,hpm,?_⟩
   ·have:ivs (o.map (·.val))=o.toArray.toList.map enc:=by unfold ivs;simp [enc]
    rw [this];exact rs
   ·rw [List.pairwise_map]
    have hnd:o.Nodup:=hp.nodup_iff.2 (by
     rw [List.Nodup,List.pairwise_iff_getElem]
     intro i1 j1 h1 h2 hlt e
     simp [d] at e;omega)
    refine (hs.and hnd).imp fun {x y} h=>?_
    rw [Bool.not_eq_true',hlf] at h
    have hne:x.val≠y.val:=fun e=>h.2 (Fin.ext e)
    omega
end
end Core
end Go.Proofs.YtfeekmmfdkfgmaaGreatDoor
namespace Go.Proofs.YtfeekmmfdkfgmaaGreatDoor
open Go Go.RowKit
set_option linter.unnecessarySimpa false
namespace Core
set_option linter.ambiguousOpen false
open Seq Cut Web
section
variable {w w':World} {n N:Nat} {EA EB nm:Nat→Nat} {en:Nat→Nat × Nat} {W ky:Nat→Int} {b ob:Option Addr} {c oc:Nat} {o:List Nat}
theorem lde {i:Nat} (va:VA w b n 3 (recs (edc EA EB W) n)) (hi:i<n) {K:Int→Int→Int→Prop} (k:K (EA i:Nat) (EB i:Nat) (W i)):ixS b n (i:Int) 3 fun a=>Qnv a w K:=by
 refine va.ix hi fun g o e cs rg _ hc=>?_
 unfold Qnv
 rw [Qad,Qad]
 refine Qaf (n:=(EA i:Nat)) rg ?_ (Qaf (n:=(EB i:Nat)) rg ?_ (Qaf (n:=W i) rg ?_ k))
 ·have:=hc 0 (by omega);rw [Nat.add_zero] at this;rw [this];exact Qta (k:=0) hi (by omega)
 ·rw [hc 1 (by omega)];exact Qta (k:=1) hi (by omega)
 ·rw [hc 2 (by omega)];exact Qta (k:=2) hi (by omega)
theorem Zet {A:Nat} (r:Row w.heap A 3 [.int .i64 (N:Nat)]) {x y:Nat} {z:Int} (hx:x<N) (hy:y<N):Calls Pg 266 #[.agg #[.int .i64 (x:Nat),.int .i64 (y:Nat),.int .i32 z],.pointer (some ⟨A,0,none⟩)] w fun r w'=>r=.returned (.bool false)∧Chg Qaa w w':=by
 refine (Qx4 _ _ _ _ _ (fun v' w'=>v'=.bool false∧Chg Qaa w w') ?_).mono rti
 unfold Qsh nr
 refine Qak fun B w5 hB c5 r5=>?_
 have r1:=c5.row (fun h=>h) r
 rw [Qad]
 refine Qaf (n:=(x:Nat)) r5 rfl (Qac (fun k=>by simp only [b1s] at k;omega) (fun _=>Qaf (n:=(x:Nat)) r5 rfl (pt_i (Qaf (n:=(N:Nat)) r1 rfl (Qac (fun k=>by simp only [b1s] at k;omega) (fun _=>Qaf (n:=(y:Nat)) r5 rfl (Qac (fun k=>by simp only [b1s] at k;omega) (fun _=>Qaf (n:=(y:Nat)) r5 rfl (pt_i (Qaf (n:=(N:Nat)) r1 rfl ⟨?_,c5⟩))))))))))
 congr 1
 exact decide_eq_false (by omega)
theorem Zi7 (va:VA w b n 3 (recs (edc EA EB W) n)) (hn:n≤1048576) (hN:N≤1048576) (hE:∀i,i<n→EA i<N∧EB i<N):Calls Pg 222 #[.int .i64 (N:Nat),.slice b n c] w fun r w'=>r=.returned (errV 0)∧Chg Qaa w w':=by
 refine (Q0e _ _ _ _).go ?_
 unfold Qxc nr
 refine Qak fun A w3 hA c3 r3=>Qaf (n:=(N:Nat)) r3 rfl (Qac (fun k=>by simp only [b1s] at k;omega) (fun _=>Qaf (n:=(N:Nat)) r3 rfl (Qac (fun k=>by simp only [b1s] at k;omega) (fun _=>Qac (fun k=>by simp only [b1s] at k;omega) (fun _=>?_)))))
 refine (Qea _ _ _ _ _ (fun v' w'=>v'=.bool false∧Chg Qaa w3 w') ?_).mono ?_
 ·unfold Qb7 nr
  refine (Qel _ _ _ _ _ (fun v' w'=>v'=.int .i64 (-1)∧Chg Qaa w3 w') ?_).mono ?_
  ·unfold Qcf nr
   let J:Nat→List Value→World→Prop:=fun j us w'=>∃i:Nat,us=[.int .i64 i]∧i≤n∧Chg Qaa w3 w'∧j=n-i
   refine ⟨LI J,LM J,⟨_,0,rfl,by omega,Chg.refl _ _,rfl⟩,?_⟩
   intro _ i w5 hJ
   obtain ⟨i,hvs,hi,ck,hj⟩:=hJ.at
   simp only [vj] at hvs
   subst hvs
   refine Qac (fun hlt=>?_) (fun hlt=>⟨rfl,ck⟩)
   simp only [b1s] at hlt
   obtain ⟨h1,h2⟩:=hE i (by omega)
   refine lde (va.nob (c3.trans ck)) (by omega) (Zcg (g:=266) (show Eall.contains 266=true by kernel_rfl) ((Zet (ck.row (fun h=>h) r3) h1 h2).mono ?_))
   rintro r w11 ⟨rfl,c11⟩
   refine ⟨_,rfl,Qac (fun k=>by cases k) (fun _=>?_)⟩
   rw [wrap64_in (by omega) (by omega)]
   exact LI.again (k:=n-(i+1)) ⟨i+1,rfl,by omega,ck.trans c11,rfl⟩ (by rw [hj];omega)
  ·rintro r w3 ⟨v,rfl,rfl,k⟩
   exact ⟨_,rfl,rfl,k⟩
 ·rintro r w10 ⟨v,rfl,rfl,k⟩
  exact ⟨_,rfl,Qac (fun k=>by cases k) (fun _=>⟨rfl,c3.trans k⟩)⟩
theorem Zes (va:VA w b n 3 (recs (edc EA EB W) n)) (vo:VA w ob n 1 (ivs o)) (hp:o.Perm (List.range n)) (hs:o.Pairwise fun i j=>W i<W j∨(W i=W j∧i<j)) (hn:n≤1048576) (h1:1≤N) (hN:N≤1048576) (hE:∀i,i<n→EA i<N∧EB i<N)
  (hen:∀i,i<n→en (nm i)=(EA i,EB i)) (hinj:∀i j,i<n→j<n→nm i=nm j→i=j) (hky:∀i j,i<n→j<n→(W i<W j∨(W i=W j∧i<j))→ky (nm i)<ky (nm j)) :
  Calls Pg 223 #[.int .i64 (N:Nat),.slice b n c,.slice ob n oc] w fun r w'=>∃A s L B,r=.returned (.tuple #[.slice (some ⟨A,0,none⟩) n n,.int .i64 s,errV 0])∧Chg Qaa w w'∧w.heap.size≤A∧KR en ky L B∧(∀e,e∈L↔∃i,i<n∧nm i=e)∧Row w'.heap A 4 (recs (bc fun i=>(B (nm i)).isSome) n):=by
 refine (Qza _ _ _ _ _ _ _).go ?_
 unfold Qvl nr
 refine ⟨by omega,Int.le_refl _,by omega,Qak fun A w4 hA c4 r4=>?_⟩
 rw [Int.toNat_natCast] at r4 ⊢
 have r4':Row w4.heap A 4 (recs (bc fun _=>false) n):=by rw [Qas] at r4;exact r4
 refine Qac (fun h0=>?_) (fun h0=>?_)<;>simp only [b1s] at h0
 ·have hn0:n=0:=by omega
  subst hn0
  exact ⟨A,0,[],_,rfl,c4,hA,KR.nil,fun e=>⟨fun h=>(by cases h),fun ⟨i,h,_⟩=>absurd h (Nat.not_lt_zero _)⟩,r4'⟩
 have hol:o.length=n:=by rw [hp.length_eq,List.length_range]
 have hom:∀{i},i∈o↔i<n:=fun {i}=>by rw [hp.mem_iff,List.mem_range]
 have hnd:o.Nodup:=hp.nodup_iff.2 List.nodup_range
 refine (Zkj (P:=LK [] fun _=>none) h1 hN fun x y=>⟨Q1j,fun h=>h ▸ LK.refl⟩).mono ?_
 rintro r w7 ⟨G,A0,S,L0,rfl,c7,ug⟩
 refine ⟨_,_,rfl,Qaj (fun e=>absurd rfl e) (fun _=>?_)⟩
 have s4:=c4.size
 have s7:=c7.size
 have hAlt:=r4'.lt
 let J:Nat→List Value→World→Prop:=fun jj us w'=>∃(j:Nat) (s:Int) (L:List Nat) (B:Nat→Option (Nat × Nat)),us=[.int .i64 s,.int .i64 j]∧j≤n∧Chg (fun k=>k=A∨w4.heap.size≤k) w7 w'∧UG w' w4.heap.size G A0 S L0 N (LK [] B)∧KR en ky L B∧(∀e,e∈L↔∃i,i∈o.take j∧nm i=e)∧Row w'.heap A 4 (recs (bc fun i=>(B (nm i)).isSome) n)∧jj=n-j
 refine ⟨LI J,LM J,⟨_,0,0,[],fun _=>none,rfl,by omega,Chg.refl _ _,ug,KR.nil,fun e=>by simp,by simpa using c7.row (fun h=>h) r4',rfl⟩,?_⟩
 intro _ s j w13 hJ
 obtain ⟨j,s,L,B,hvs,hj,ck,ug,kr,hL,rk,hjj⟩:=hJ.at
 simp only [vj] at hvs
 obtain ⟨rfl,rfl⟩:=hvs
 have cw:Chg Qaa w w13:=(c4.trans c7).trans' ck fun k e=>.inr (by omega)
 refine Qac (fun hlt=>?_) (fun hlt=>?_)<;>simp only [b1s] at hlt
 ·have hjn:j<n:=by omega
  obtain ⟨i,hi⟩:∃i,o[j]?=some i:=⟨_,List.getElem?_eq_getElem (by omega)⟩
  have him:=List.mem_of_getElem? hi
  have hin:=hom.1 him
  obtain ⟨e1,e2⟩:=hE i hin
  have vo13:VA w13 ob o.length 1 (ivs o):=by rw [hol];exact vo.nob cw
  have c14:Chg Qaa w13 w13.drew:=(Chg.refl _ _).drew
  have va14:=(va.nob cw).nob c14
  have hni:i∉o.take j:=fun k=>by
   obtain ⟨q,hq⟩:=List.getElem?_of_mem k
   have hql:=(List.getElem?_eq_some_iff.1 hq).1
   rw [List.length_take] at hql
   rw [List.getElem?_take,if_pos (by omega)] at hq
   have:=(List.getElem?_inj (by omega) hnd).1 (hq.trans hi.symm)
   omega
  have htn:∀{k},k∈o.take j→k<n:=fun {k} h=>hom.1 (List.mem_of_mem_take h)
  have heL:nm i∉L:=fun k=>by
   obtain ⟨q,h2,h3⟩:=(hL _).1 k
   have:=hinj q i (htn h2) hin h3
   subst this;exact hni h2
  have hk:∀f,f∈L→ky f<ky (nm i):=fun f hf=>by
   obtain ⟨q,h2,rfl⟩:=(hL _).1 hf
   refine hky q i (htn h2) hin ?_
   obtain ⟨m,hm⟩:=List.getElem?_of_mem h2
   have hml:=(List.getElem?_eq_some_iff.1 hm).1
   rw [List.length_take] at hml
   rw [List.getElem?_take,if_pos (by omega)] at hm
   have:=List.pairwise_iff_getElem.1 hs m j (by omega) (by omega) (by omega)
   rw [List.getElem?_eq_getElem (by omega)] at hm hi
   rw [Option.some.inj hm,Option.some.inj hi] at this
   exact this
  have et:o.take (j+1)=o.take j++[i]:=by rw [List.take_add_one,hi];rfl
  have hL':∀e,e∈nm i::L↔∃q,q∈o.take (j+1)∧nm q=e:=fun e=>by
   rw [List.mem_cons,hL,et]
   constructor
   ·rintro (rfl | ⟨q,h2,h3⟩)
    ·exact ⟨i,by simp,rfl⟩
    ·exact ⟨q,by simp [h2],h3⟩
   ·rintro ⟨q,h2,h3⟩
    rcases List.mem_append.1 h2 with h2 | h2
    ·exact .inr ⟨q,h2,h3⟩
    ·rw [List.mem_singleton] at h2;subst h2;exact .inl h3.symm
  have nxt:IntKind.wrap .i64 ((j:Int)+1)=((j+1:Nat):Int):=by rw [wrap64_in (by omega) (by omega)];omega
  rw [nxt]
  have hBn:B (nm i)=none:=by
   cases k:B (nm i) with
   | none=>rfl
   | some p=>exact absurd (kr.b _ p k).1 heL
  have h14:∀{Z:Prop},Z→Z:=fun h=>h
  rw [←hol]
  refine rdI vo13 hi ?_
  rw [hol]
  refine va14.ix hin fun g1 o1 e3 cs1 rg1 _ hc1=>?_
  refine Qaf (n:=(EA i:Nat)) rg1 (by have:=hc1 0 (by omega);rw [Nat.add_zero] at this;rw [this];exact Qta (k:=0) hin (by omega)) (va14.ix hin fun g2 o2 e4 cs2 rg2 _ hc2=>?_)
  rw [Qad]
  refine Qaf (n:=(EB i:Nat)) rg2 (by rw [hc2 1 (by omega)];exact Qta (k:=1) hin (by omega)) ?_
  have hgt:w4.heap.size≤w13.drew.heap.size:=by have:=ck.size;show _≤w13.heap.size;omega
  refine (Zfm (P':=fun u v=>LK [] B u v∨(LK [] B u (EA i)∧LK [] B (EB i) v)∨(LK [] B u (EB i)∧LK [] B (EA i) v)) (ug.nob c14) e1 e2 (fun u v _ _=>Iff.rfl) hgt).mono ?_
  rintro r w22 ⟨z,rfl,hz,ug22,c22⟩
  have c13_22:Chg (fun k=>k=A∨w4.heap.size≤k) w13 w22:=c14.weak.trans (c22.mono fun k _ e=>.inr e)
  have rk22:Row w22.heap A 4 (recs (bc fun i=>(B (nm i)).isSome) n):=c22.row (by omega) (c14.row (fun h=>h) rk)
  refine ⟨_,_,rfl,Qaj (fun e=>absurd rfl e) (fun _=>Qac (fun k=>?_) (fun k=>?_))⟩
  ·have hno:=hz.1 k
   refine Qat hin ?_
   rw [Nat.zero_add,Nat.mul_one]
   refine Qao rk22 (by rw [Qah (sz:=1) _ (fun _=>rfl)];omega) rfl fun w25 c25 r25=>?_
   rw [Qz5 hin] at r25
   have c13_25:Chg (fun k=>k=A∨w4.heap.size≤k) w13 w25:=c13_22.trans (c25.mono fun k _ e=>.inl e)
   have va25:=va.nob (cw.trans' c13_25 fun k e=>.inr (by omega))
   refine va25.ix hin fun g3 o3 e5 cs3 rg3 _ hc3=>?_
   rw [Qad]
   refine Qaf (n:=W i) rg3 (by rw [hc3 2 (by omega)];exact Qta (k:=2) hin (by omega)) ?_
   have kr2:=kr.new heL hk (by rw [hen i hin];exact hno)
   rw [hen i hin] at kr2
   refine LI.again (k:=n-(j+1)) ⟨j+1,_,nm i::L,upd B (nm i) (some (EA i,EB i)),rfl,by omega,ck.trans c13_25,(ug22.keep c25 fun g e=>by omega).iff fun u v _ _=>(Q79 hBn).symm,kr2,hL',?_,rfl⟩ (by rw [hjj];omega)
   refine (Qbb fun q hq=>?_) ▸ r25
   unfold bc
   congr 2
   unfold upd
   by_cases e:q=i
   ·subst e;simp
   ·rw [if_neg e]
    show _=(if nm q=nm i then _ else B (nm q)).isSome
    rw [if_neg (fun h=>e (hinj q i hq hin h))]
  ·have hlk:LK [] B (EA i) (EB i):=Classical.byContradiction fun h=>by rw [hz.2 h] at k;cases k
   refine LI.again (k:=n-(j+1)) ⟨j+1,_,nm i::L,B,rfl,by omega,ck.trans c13_22,ug22.iff fun u v _ _=>⟨fun h=>?_,.inl⟩,kr.old hk (by rw [hen i hin];exact hlk),hL',rk22,rfl⟩ (by rw [hjj];omega)
   rcases h with h | ⟨h,h2⟩ | ⟨h,h2⟩
   ·exact h
   ·exact (h.trans hlk).trans h2
   ·exact (h.trans hlk.symm).trans h2
 ·have hjn:j=n:=by omega
  subst hjn
  rw [List.take_of_length_le (by omega)] at hL
  exact ⟨A,s,L,B,rfl,cw,hA,kr,fun e=>by rw [hL];simp only [hom],rk⟩
theorem Zlr (va:VA w b n 3 (recs (edc EA EB W) n)) (hn:n≤1048576) (h1:1≤N) (hN:N≤1048576) (hE:∀i,i<n→EA i<N∧EB i<N)
  (hen:∀i,i<n→en (nm i)=(EA i,EB i)) (hinj:∀i j,i<n→j<n→nm i=nm j→i=j) (hky:∀i j,i<n→j<n→(W i<W j∨(W i=W j∧i<j))→ky (nm i)<ky (nm j)) :
  Calls Pg 152 #[.int .i64 (N:Nat),.slice b n c] w fun r w'=>∃A s L B,r=.returned (.tuple #[.slice (some ⟨A,0,none⟩) n n,.int .i64 s,errV 0])∧Chg Qaa w w'∧w.heap.size≤A∧KR en ky L B∧(∀e,e∈L↔∃i,i<n∧nm i=e)∧Row w'.heap A 4 (recs (bc fun i=>(B (nm i)).isSome) n):=by
 refine (Q11 _ _ _ _).go ?_
 unfold Qzo nr
 refine (Zi7 va hn hN hE).mono ?_
 rintro r w3 ⟨rfl,c3⟩
 refine ⟨_,rfl,Qaj (fun e=>absurd rfl e) (fun _=>(Zer (va.nob c3) hn).mono ?_)⟩
 rintro r w6 ⟨blk,o,rfl,c6,hb,ro,hp,hs⟩
 have hol:o.length=n:=by rw [hp.length_eq,List.length_range]
 refine ⟨_,_,_,rfl,(Zes ((va.nob c3).nob c6) (VA.Qgm ro (by rw [Q1p,hol,Nat.mul_one])) hp hs hn h1 hN hE hen hinj hky).mono ?_⟩
 rintro r w11 ⟨A,s,L,B,rfl,c11,hA,k⟩
 have s3:=c3.size
 have s6:=c6.size
 exact ⟨_,_,_,_,_,rfl,A,s,L,B,rfl,(c3.trans c6).trans c11,by omega,k⟩
end
theorem Zjf {f:Nat→List Value} (L:List Nat):L.flatMap f=recs (fun i=>f (L.getD i 0)) L.length:=by
 have key:∀(n:Nat),n≤L.length→(L.take n).flatMap f=recs (fun i=>f (L.getD i 0)) n:=by
  intro n
  induction n with
  | zero=>intro _;rfl
  | succ n ih=>
   intro h
   rw [Qd6,←ih (by omega),List.take_add_one,List.getElem?_eq_getElem (by omega),List.flatMap_append]
   simp [List.getD_eq_getElem?_getD,List.getElem?_eq_getElem (show n<L.length by omega)]
 have:=key L.length (Nat.le_refl _)
 rwa [List.take_length] at this
section
variable {w w' w₀:World} {b:Bk} {N e:Nat} {E:Int} {lv:Nat→Bool} {tl:Nat→List Nat} {q q':List (List Nat)} {B D:Nat→Option (Nat × Nat)} {ky:Nat→Int} {sb:Option Addr} {sc:Nat} {wl:List Int}
theorem XS.fresh {S:Nat→Prop} (h:XS w₀ w b N lv tl q B D ky E) (c:Chg S w w') (hS:∀k,S k→w₀.heap.size≤k) (hlow:∀k,b.has k→k<w₀.heap.size):XS w₀ w' b N lv tl q B D ky E:=
 ⟨h.c.trans' c fun k hk=>.inr (hS k hk),h.a.keep c fun k hk hb=>by have:=hS k hk;have:=hlow k hb;omega⟩
def elk (tl:Nat→List Nat) (N k:Nat):List Nat:=(List.range k).filter fun e=>decide (Laid tl N e)
theorem Zl6:elk tl N N=el tl N:=rfl
theorem Q8n {k:Nat}:elk tl N (k+1)=elk tl N k++if Laid tl N k then [k] else []:=by
 unfold elk
 rw [List.range_succ,List.filter_append]
 congr 1
 by_cases h:Laid tl N k
 ·rw [if_pos h];simp [h]
 ·rw [if_neg h];simp [h]
theorem Zg4 {k:Nat}:(elk tl N k).length≤k:=by
 have:=List.length_filter_le (fun e=>decide (Laid tl N e)) (List.range k)
 rwa [List.length_range] at this
theorem Zm5:cE tl N=((el tl N).length:Nat):=by
 unfold cE el
 rw [Q1l]
 refine Qfi fun e _=>?_
 by_cases h:Laid tl N e
 ·have h':2*e∈dl tl N:=h
  rw [if_pos h,if_pos (decide_eq_true h')]
 ·have h':¬2*e∈dl tl N:=h
  rw [if_neg h,if_neg (by rw [decide_eq_true_iff];exact h')]
def wt (wl:List Int) (e:Nat):Int:=(wl[e]?).getD 0
def fe (tl:Nat→List Nat) (N:Nat) (wl:List Int) (e:Nat):List Value:=[.int .i64 (og tl N (2*e):Nat),.int .i64 (og tl N (2*e+1):Nat),.int .i32 (wt wl e)]
def till (L:List Nat) (B:Nat→Option (Nat × Nat)):Nat→Option (Nat × Nat):=fun e=>if e∈L then B e else none
theorem Qw7 {L:List Nat} {p:Nat × Nat} (h:till L B e=some p):e∈L∧B e=some p:=by
 unfold till at h
 split at h
 ·rename_i k;exact ⟨k,h⟩
 ·cases h
theorem Qw8 {L:List Nat}:till (L++[e]) B=upd (till L B) e (B e):=by
 funext i
 unfold till upd
 by_cases h:i=e
 ·subst h;simp
 ·rw [if_neg h]
  simp [h]
theorem Zjk:ET Pg 238 240 3 24:=ET.of (by kernel_rfl) (by kernel_rfl)
theorem Q9v (h:MX w.heap b N lv tl q (fun _=>none) (fun _=>none) ky 0) (hM:MP N tl) (hf:FQ (ph tl N) q) (hw:VA w sb wl.length 1 (wl.map (.int .i32))) (hwb:∀x∈wl,-2147483648≤x∧x≤2147483647) (hso:∀g,0<wl.length→bk sb=some g→¬b.has g)
  (hfl:∀x,x∈dl tl N→vN tl N (og tl N x)-eN tl N (og tl N x)+fN tl N (og tl N x)=2) :
  Calls Pg 66 #[.pointer (some ⟨b.M,0,none⟩),.slice sb wl.length sc] w fun r w'=>r=.returned (errV 0)∧∃B D ky',XS w w' b N lv tl q B D ky' (cE tl N)∧CB (fun _=>False) N tl q B D∧MM N tl B D ky' (fun _=>False)∧∀e,Laid tl N e→ky' e=wt wl e*1048576+e:=by
 refine (Qr9 _ _ _ _ _ (fun v' w'=>v'=errV 0∧∃B D ky',XS w w' b N lv tl q B D ky' (cE tl N)∧CB (fun _=>False) N tl q B D∧MM N tl B D ky' (fun _=>False)∧∀e,Laid tl N e→ky' e=wt wl e*1048576+e) ?_).mono rti
 unfold Qlu nr
 have hsz:=h.sz
 have hlow:=fun k hk=>h.lowA k hk
 have hwt:∀e,-2147483648≤wt wl e∧wt wl e≤2147483647:=fun e=>by
  unfold wt
  cases k:wl[e]? with
  | none=>exact ⟨by show (-2147483648:Int)≤0;omega,by show (0:Int)≤_;omega⟩
  | some x=>exact hwb x (List.mem_of_getElem? k)
 have hMm:b.has b.M:=.inl rfl
 have hKB:b.has b.KB:=.inr (.inr (.inl rfl))
 let kk:Nat→Nat→Int:=fun k i=>if i<k∧Laid tl N i then wt wl i*1048576+i else ky i
 refine pt_i (Qaf (n:=(N:Int)) h.r rfl ?_)
 let J:Nat→List Value→World→Prop:=fun jj us w'=>∃(k:Nat) (b1 b2:Option Addr) (c1 c2:Nat),us=[.slice b1 (elk tl N k).length c1,.slice b2 (elk tl N k).length c2,.int .i64 k]∧k≤N∧XS w w' b N lv tl q (fun _=>none) (fun _=>none) (kk k) 0∧
  Own w' w.heap.size 240 3 b1 (elk tl N k).length c1 ((elk tl N k).flatMap (fe tl N wl))∧Own w' w.heap.size 3 1 b2 (elk tl N k).length c2 (ivs (elk tl N k))∧Apart b1 b2∧jj=N-k
 have k0:kk 0=ky:=by funext i;show (if i<0∧_ then _ else _)=_;rw [if_neg (by omega)]
 refine ⟨LI J,LM J,⟨_,0,none,none,0,0,rfl,by omega,by rw [k0];exact h.start,Own.nil,Own.nil,Apart.nil,rfl⟩,?_⟩
 intro _ s6b s6l s6c s7b s7l s7c n8 w9 hJ
 obtain ⟨k,b1,b2,c1,c2,hvs,hk,xs,o1,o2,ap,hj⟩:=hJ.at
 simp only [vk] at hvs
 obtain ⟨⟨rfl,rfl,rfl⟩,⟨rfl,rfl,rfl⟩,rfl⟩:=hvs
 have s9:=xs.c.size
 have hel:=Zg4 (tl:=tl) (N:=N) (k:=k)
 refine Qac (fun hlt=>?_) (fun hlt=>?_)<;>simp only [b1s] at hlt
 ·have hkN:k<N:=by omega
  have nxt:IntKind.wrap .i64 ((k:Int)+1)=((k+1:Nat):Int):=by rw [wrap64_in (by omega) (by omega)];omega
  rw [nxt]
  refine pt_i ?_
  rw [Qad]
  refine Qav xs.a.r rfl ((Q86 xs.a.t hkN).mono ?_)
  rintro r w13 ⟨rfl,rfl⟩
  refine ⟨_,rfl,Qac (fun hn=>?_) (fun hn=>?_)⟩
  ·have hnl:¬Laid tl N k:=by simpa using hn
   have e1:elk tl N (k+1)=elk tl N k:=by rw [Q8n,if_neg hnl,List.append_nil]
   have e2:kk (k+1)=kk k:=by
    funext i
    show (if i<k+1∧_ then _ else _)=if i<k∧_ then _ else _
    by_cases h1:i<k∧Laid tl N i
    ·rw [if_pos h1,if_pos ⟨by omega,h1.2⟩]
    ·rw [if_neg h1,if_neg]
     rintro ⟨h2,h3⟩
     have:i=k:=by
      rcases Nat.lt_or_ge i k with h4 | h4
      ·exact absurd ⟨h4,h3⟩ h1
      ·omega
     subst this;exact hnl h3
   refine LI.again (k:=N-(k+1)) ⟨k+1,s6b,s7b,s6c,s7c,by rw [e1],by omega,by rw [e2];exact xs,by rw [e1];exact o1,by rw [e1];exact o2,ap,rfl⟩ (by rw [hj];omega)
  ·have hl:Laid tl N k:=by simpa using hn
   refine Qak fun A w16 hA c16 r16=>Qd3 r16 rfl (by intro u hu;simp at hu;rcases hu with rfl | rfl | rfl<;>rfl) fun w17 c17 r17=>?_
   have hAlt:=r16.lt
   have cA:Chg (fun g=>w.heap.size≤g) w13 w17:=c16.weak.trans (c17.mono fun g _ e=>by omega)
   have hA1:∀g,bk s6b=some g→g≠A:=fun g hg e=>by have:=(o1.Qar hg).2;omega
   have hA2:∀g,bk s7b=some g→g≠A:=fun g hg e=>by have:=(o2.Qar hg).2;omega
   have hwA:∀{w'},Chg (fun g=>w.heap.size≤g) w13 w'→VA w' sb wl.length 1 (wl.map (.int .i32)):=fun {w'} c=>(hw.keep xs.c fun g hg hb hch=>hso g hg hb (Bk.sub hch)).keep c fun g hg hb hge=>by
     obtain ⟨g',e',hlt'⟩:=hw.blk hg
     rw [e'] at hb
     have:g'=g:=Option.some.inj hb
     omega
   have xs17:XS w w17 b N lv tl q (fun _=>none) (fun _=>none) (kk k) 0:=xs.fresh cA (fun g hg=>hg) hlow
   have o17:Own w17 w.heap.size 240 3 s6b (elk tl N k).length s6c ((elk tl N k).flatMap (fe tl N wl)):=(o1.keep c16 fun _ _ h=>h).keep c17 fun g hg=>hA1 g hg
   have p17:Own w17 w.heap.size 3 1 s7b (elk tl N k).length s7c (ivs (elk tl N k)):=(o2.keep c16 fun _ _ h=>h).keep c17 fun g hg=>hA2 g hg
   refine ⟨fun us w'=>us=[]∧Chg (·=A) w17 w'∧Row w'.heap A 240 [.int .i64 0,.int .i64 0,.int .i32 (wt wl k)],?_,?_⟩
   ·refine Qac (fun hlw=>?_) (fun hlw=>⟨rfl,Chg.refl _ _,?_⟩)<;>simp only [b1s] at hlw
    ·have hkl:k<wl.length:=by omega
     refine (hwA cA).ix hkl fun g o e cs rg _ hc=>Qaf (n:=wt wl k) rg ?_ ?_
     ·have:=hc 0 (by omega)
      rw [Nat.add_zero] at this
      rw [this,Nat.mul_one,Nat.add_zero,List.getElem?_map,List.getElem?_eq_getElem hkl]
      unfold wt
      rw [List.getElem?_eq_getElem hkl];rfl
     ·rw [Qad]
      exact Qao r17 (by simp) rfl fun w21 c21 r21=>⟨rfl,c21,r21⟩
    ·have:wt wl k=0:=by unfold wt;rw [List.getElem?_eq_none (by omega)];rfl
     rw [this];exact r17
   rintro _ w22 ⟨_,c22,r22⟩
   have xs22:XS w w22 b N lv tl q (fun _=>none) (fun _=>none) (kk k) 0:=xs17.fresh c22 (fun g hg=>by omega) hlow
   have o22:=o17.keep c22 fun g hg=>hA1 g hg
   have p22:=p17.keep c22 fun g hg=>hA2 g hg
   refine (Q68 xs22.a hM hl).mono ?_
   rintro r w25 ⟨rfl,c25⟩
   refine ⟨_,_,rfl,Qao (c25.row (fun h=>h) r22) (by simp) rfl fun w27 c27 r27=>?_⟩
   rw [Qad]
   refine Qao r27 (by simp) rfl fun w28 c28 r28=>?_
   rw [Qad]
   have c22_28:Chg (·=A) w22 w28:=(c25.weak.trans c27).trans c28
   have xs28:=xs22.fresh c22_28 (fun g hg=>by omega) hlow
   have o28:=o22.keep c22_28 fun g hg=>hA1 g hg
   have p28:=p22.keep c22_28 fun g hg=>hA2 g hg
   refine Qaf (n:=wt wl k) r28 (by simp) ((Zjo (hwt k) (by omega)).mono ?_)
   rintro r w32 ⟨rfl,rfl⟩
   refine ⟨_,_,rfl,Qaj (fun e=>absurd rfl e) (fun _=>pt_i ?_)⟩
   rw [Qad]
   refine Qai xs28.a.r rfl (Qat hkN ?_)
   rw [Nat.zero_add,Nat.mul_one]
   refine Qao xs28.a.k (by rw [Qah _ Q1o];omega) rfl fun w37 c37 r37=>?_
   have e3:(recs (kc (kk k)) N).set k (.int .i64 (wt wl k*1048576+(k:Nat)))=recs (kc (upd (kk k) k (wt wl k*1048576+k))) N:=by
    have:=Qca (k:=0) (kc (kk k)) Q1o (g:=kc (upd (kk k) k (wt wl k*1048576+k))) (v:=.int .i64 (wt wl k*1048576+(k:Nat))) hkN (by omega) (fun j hj=>by unfold kc;rw [Qag _ _ hj]) (by unfold kc;rw [Qab];rfl)
    rwa [Nat.mul_one,Nat.add_zero] at this
   rw [e3] at r37
   have hw2:=hwt k
   have xs37':=xs28.a.keyed c37 r37 rfl rfl ⟨by omega,by omega⟩
   have xs37:=xs28.trans xs37'
   have hKA:A≠b.KB:=fun e=>by have:=hlow _ hKB;omega
   have q37:Row w37.heap A 240 (fe tl N wl k):=c37.row hKA r28
   have hnk:∀g,w.heap.size≤g→g≠b.KB:=fun g hg e=>by have:=hlow _ hKB;omega
   have o37:=o28.keep c37 fun g hg=>hnk g (o28.Qar hg).1
   have p37:=p28.keep c37 fun g hg=>hnk g (p28.Qar hg).1
   have s37:=xs37.c.size
   unfold Qnv
   simp only [Qad]
   refine Qaf (n:=(og tl N (2*k):Nat)) q37 rfl (Qaf (n:=(og tl N (2*k+1):Nat)) q37 rfl (Qaf (n:=wt wl k) q37 rfl (Qak fun A2 w42 hA2' c42 r42=>?_)))
   have o42:=o37.keep c42 fun _ _ h=>h
   have p42:=p37.keep c42 fun _ _ h=>h
   obtain ⟨b43,c43,w44,g43,o44,c44,hb43⟩:=Qaw (ty:=238) Zjk o42 r42 rfl (by intro u hu;simp at hu;rcases hu with rfl | rfl | rfl<;>rfl) (by have:=c42.size;omega) (by omega) (by omega)
   refine ⟨_,_,_,_,g43,Qak fun A3 w46 hA3 c46 r46=>?_⟩
   have s42:=c42.size
   have s44:=c44.size
   have s46:=c46.size
   have ap44:Apart b43 s7b:=ap.app hb43 fun g hg=>by have:=(p42.Qar hg).2;omega
   have p44:=p42.keep c44 fun g hg e=>ap.symm g hg e
   have o46:=o44.keep c46 fun _ _ h=>h
   have p46:=p44.keep c46 fun _ _ h=>h
   obtain ⟨b47,c47,w48,g47,p48,c48,hb47⟩:=Qaw (ty:=58) Qdv p46 r46 rfl (by intro u hu;simp at hu;subst hu;rfl) (by omega) (by omega) (by omega)
   refine ⟨_,_,_,_,g47,?_⟩
   have o48:=o46.keep c48 fun g hg e=>ap44.symm g e hg
   have e1:elk tl N (k+1)=elk tl N k++[k]:=by rw [Q8n,if_pos hl]
   have e2:kk (k+1)=upd (kk k) k (wt wl k*1048576+k):=by
    funext i
    show (if i<k+1∧_ then _ else _)=if i=k then _ else if i<k∧_ then _ else _
    by_cases h1:i=k
    ·subst h1;rw [if_pos rfl,if_pos ⟨by omega,hl⟩]
    ·rw [if_neg h1]
     by_cases h2:i<k∧Laid tl N i
     ·rw [if_pos h2,if_pos ⟨by omega,h2.2⟩]
     ·rw [if_neg h2,if_neg (fun h3=>h2 ⟨by omega,h3.2⟩)]
   have cbig:Chg (fun g=>w.heap.size≤g) w37 w48:=((c42.weak.trans (c44.mono fun g _ e=>(o42.Qar e).1)).trans c46.weak).trans (c48.mono fun g _ e=>(p46.Qar e).1)
   have xs48:=xs37.fresh cbig (fun g hg=>hg) hlow
   have el1:(elk tl N k).length+1=(elk tl N (k+1)).length:=by rw [e1];simp
   have ef:(elk tl N (k+1)).flatMap (fe tl N wl)=(elk tl N k).flatMap (fe tl N wl)++fe tl N wl k:=by rw [e1,List.flatMap_append];simp
   have ei:ivs (elk tl N (k+1))=ivs (elk tl N k)++[.int .i64 (k:Nat)]:=by rw [e1];simp [ivs]
   rw [el1] at o48 p48 ⊢
   refine LI.again (k:=N-(k+1)) ⟨k+1,b43,b47,c43,c47,rfl,by omega,by rw [e2];exact xs48,by rw [ef];exact o48,by rw [ei];exact p48,?_,rfl⟩ (by rw [hj];omega)
   exact (ap44.symm.app hb47 fun g hg=>(o46.Qar hg).2).symm
 ·have hkN:k=N:=by omega
  subst hkN
  rw [Zl6] at *
  have hln:(el tl k).length≤k:=Zg4 (tl:=tl) (N:=k) (k:=k)
  refine pt_i ?_
  simp only [Qad]
  refine Qao xs.a.r (by simp [mrow]) rfl fun w50 c50 r50=>?_
  have hMlt:=hlow _ hMm
  have xs50':=xs.a.cnt (E':=((el tl k).length:Nat)) c50 r50
  have xs50:=xs.trans xs50'
  have o50:=o1.keep c50 fun g hg e=>by have:=(o1.Qar hg).1;omega
  have p50:=o2.keep c50 fun g hg e=>by have:=(o2.Qar hg).1;omega
  let EL:=el tl k
  have hELm:∀e,e∈EL↔Laid tl k e:=fun e=>hM.Q1i
  have hELn:EL.Nodup:=List.nodup_range.filter _
  have hget:∀{i},i<EL.length→EL[i]?=some (EL.getD i 0):=fun {i} hi=>by rw [List.getD_eq_getElem?_getD,List.getElem?_eq_getElem hi];rfl
  have hELl:∀{i},i<EL.length→Laid tl k (EL.getD i 0):=fun {i} hi=>(hELm _).1 (List.mem_of_getElem? (hget hi))
  have hELs:EL.Pairwise (· < ·):=List.Pairwise.filter _ List.pairwise_lt_range
  have va50:VA w50 s6b EL.length 3 (recs (edc (fun i=>og tl k (2*EL.getD i 0)) (fun i=>og tl k (2*EL.getD i 0+1)) fun i=>wt wl (EL.getD i 0)) EL.length):=by
   have:=VA.Qa6 o50
   rw [Zjf] at this
   exact this
  refine pt_i (Qaf (n:=(k:Int)) xs50.a.r rfl ((Zlr (EA:=fun i=>og tl k (2*EL.getD i 0)) (EB:=fun i=>og tl k (2*EL.getD i 0+1)) (W:=fun i=>wt wl (EL.getD i 0)) (nm:=fun i=>EL.getD i 0) (en:=ens tl k) (ky:=kk k) va50 (by have:EL.length≤k:=hln;omega) hsz.1 hsz.2 (fun i hi=>⟨(Qis (hELl hi)).2,(Qis (hM.odd (hELl hi))).2⟩) (fun i hi=>rfl) (fun i j hi hj he=>?_) (fun i j hi hj hlt=>?_)).mono ?_))
  ·have:=hget hi
   rw [show EL.getD i 0=EL.getD j 0 from he,←hget hj] at this
   exact (List.getElem?_inj hi hELn).1 this
  ·have h1:=hELl hi
   have h2:=hELl hj
   have l1:=hM.Qbj h1
   have l2:=hM.Qbj h2
   show (if EL.getD i 0<k∧_ then _ else _)<if EL.getD j 0<k∧_ then _ else _
   rw [if_pos ⟨l1,h1⟩,if_pos ⟨l2,h2⟩]
   rcases hlt with hlt | ⟨hlt,hij⟩
   ·have hlt':wt wl (EL.getD i 0)<wt wl (EL.getD j 0):=hlt
    omega
   ·have hlt':wt wl (EL.getD i 0)=wt wl (EL.getD j 0):=hlt
    have:=List.pairwise_iff_getElem.1 hELs i j hi hj hij
    have e1:=hget hi
    have e2:=hget hj
    rw [List.getElem?_eq_getElem hi] at e1
    rw [List.getElem?_eq_getElem hj] at e2
    rw [Option.some.inj e1,Option.some.inj e2] at this
    omega
  rintro r w56 ⟨A,s,L,B,rfl,c56,hA,kr,hL,rA⟩
  have hL':∀e,e∈L↔Laid tl k e:=fun e=>by
   rw [hL]
   constructor
   ·rintro ⟨i,hi,rfl⟩;exact hELl hi
   ·intro he
    obtain ⟨i,hi⟩:=List.getElem?_of_mem ((hELm e).2 he)
    have hil:=(List.getElem?_eq_some_iff.1 hi).1
    refine ⟨i,hil,?_⟩
    have:=hget hil
    rw [hi] at this
    exact (Option.some.inj this).symm
  have hqa:=xs50.a.w.a.a.nodup
  have cs:=kr.cs hM hL' hf hqa.1 hqa.2.2.2.2.2 fun x hx=>by
   obtain ⟨A',hA',hx'⟩:=List.mem_flatten.1 hx
   exact hqa.2.1 A' hA' x hx'
  have hFO:=cs.Qct.2 hfl
  have hmm:=kr.mm hL'
  have hAlt:=rA.lt
  have xs56:=xs50.fresh c56 (fun _ h=>h.elim) hlow
  have p56:=p50.keep c56 fun _ _ h=>h
  refine ⟨_,_,_,_,_,rfl,Qaj (fun e=>absurd rfl e) (fun _=>?_)⟩
  let D:=ties tl k B
  have hB1:∀L',∀i a c,till L' B i=some (a,c)→a<k∧c<k:=fun L' i a c hi=>by
   obtain ⟨_,h2,_⟩:=cs.bB i _ (Qw7 hi).2
   have hl:=(cs.bB i _ (Qw7 hi).2).1
   cases h2
   exact ⟨(Qis hl).2,(Qis (hM.odd hl)).2⟩
  let J3:Nat→List Value→World→Prop:=fun jj us w'=>∃i:Nat,us=[.int .i64 i]∧i≤EL.length∧XS w56 w' b k lv tl q (till (EL.take i) B) (till (EL.take i) D) (kk k) ((el tl k).length:Nat)∧jj=EL.length-i
  have t0:∀F:Nat→Option (Nat × Nat),till (EL.take 0) F=fun _=>none:=fun F=>by funext i;simp [till]
  refine ⟨LI J3,LM J3,⟨_,0,rfl,by omega,by rw [t0,t0];exact xs56.a.start,rfl⟩,?_⟩
  intro _ i w61 hJ3
  obtain ⟨i,hvs,hi,xi,hj3⟩:=hJ3.at
  simp only [vj] at hvs
  subst hvs
  have low56:∀g,b.ch g→g<w.heap.size:=fun g hg=>h.low g hg
  have s56:=xs56.c.size
  have s50:=xs50.c.size
  refine Qac (fun hlt3=>?_) (fun hlt3=>?_)<;>simp only [b1s] at hlt3
  ·have hiE:i<EL.length:=by
    have:(i:Int)<((el tl k).length:Nat):=hlt3
    show i<(el tl k).length;omega
   have hg:=hget hiE
   generalize hee:EL.getD i 0=e at *
   have he:=(hELm e).1 (List.mem_of_getElem? hg)
   have heN:=hM.Qbj he
   have hni:e∉EL.take i:=fun hm=>by
    obtain ⟨q1,hq⟩:=List.getElem?_of_mem hm
    have hql:=(List.getElem?_eq_some_iff.1 hq).1
    rw [List.length_take] at hql
    rw [List.getElem?_take,if_pos (by omega)] at hq
    have:=(List.getElem?_inj (by omega) hELn).1 (hq.trans hg.symm)
    omega
   have et:EL.take (i+1)=EL.take i++[e]:=by rw [List.take_add_one,hg];rfl
   have nxt:IntKind.wrap .i64 ((i:Int)+1)=((i+1:Nat):Int):=by rw [wrap64_in (by omega) (by omega)];omega
   rw [nxt]
   have p61:=p56.keep xi.c fun g hg hch=>by have:=(p56.Qar hg).1;have:=low56 g hch;omega
   have rA61:=xi.c.row (fun hch=>by have:=low56 _ hch;have:=xs50.c.size;omega) rA
   have hBi:till (EL.take i) B e=none:=by unfold till;rw [if_neg hni]
   have hDi:till (EL.take i) D e=none:=by unfold till;rw [if_neg hni]
   have hrd:=rdI (K:=fun n63=>ixS (some ⟨A,0,none⟩) EL.length (i:Int) 1 fun a64=>ldB a64 w61 fun b65=>
    bif b65 then (Calls Pg 142 #[.pointer (some ⟨b.M,0,none⟩),.int .i64 n63] w61 fun e68 w67=>∃v66,e68=.returned v66∧isI v66∧bif (!(nilI v66)) then (v66=errV 0∧∃B D ky',XS w w67 b k lv tl q B D ky' (cE tl k)∧CB (fun _=>False) k tl q B D∧MM k tl B D ky' (fun _=>False)∧∀e,Laid tl k e→ky' e=wt wl e*1048576+e) else (LI J3 [.int .i64 ((i+1:Nat):Int)] w67∧LM J3 [.int .i64 ((i+1:Nat):Int)] w67<LM J3 [.int .i64 (i:Nat)] w61))
    else (Calls Pg 153 #[.pointer (some ⟨b.M,0,none⟩),.int .i64 n63] w61 fun e71 w70=>∃v69,e71=.returned v69∧isI v69∧bif (!(nilI v69)) then (v69=errV 0∧∃B D ky',XS w w70 b k lv tl q B D ky' (cE tl k)∧CB (fun _=>False) k tl q B D∧MM k tl B D ky' (fun _=>False)∧∀e,Laid tl k e→ky' e=wt wl e*1048576+e) else (LI J3 [.int .i64 ((i+1:Nat):Int)] w70∧LM J3 [.int .i64 ((i+1:Nat):Int)] w70<LM J3 [.int .i64 (i:Nat)] w61))) (VA.Qa6 p61) hg ?_
   ·exact hrd
   refine Qat hiE (Qqt (n:=(B e).isSome) rA61 ?_ ?_)
   ·rw [Nat.zero_add,Nat.mul_one,Qj0 (lv:=fun i=>(B (EL.getD i 0)).isSome) hiE]
    show some (Value.bool (B (EL.getD i 0)).isSome)=_
    rw [hee]
   have again:∀{w'},XS w56 w' b k lv tl q (till (EL.take (i+1)) B) (till (EL.take (i+1)) D) (kk k) ((el tl k).length:Nat)→LI J3 [.int .i64 ((i+1:Nat):Int)] w'∧LM J3 [.int .i64 ((i+1:Nat):Int)] w' < LM J3 [.int .i64 (i:Nat)] w61:=fun {w'} hx=>LI.again (k:=EL.length-(i+1)) ⟨i+1,rfl,by omega,hx,rfl⟩ (by rw [hj3];omega)
   refine Qac (fun hb=>?_) (fun hb=>?_)
   ·obtain ⟨p,hp⟩:=Option.isSome_iff_exists.1 hb
    obtain ⟨_,rfl,hpne⟩:=cs.bB e p hp
    have hno:¬LK [] (till (EL.take i) B) (og tl k (2*e)) (og tl k (2*e+1)):=fun hk=>cs.fB e _ _ hp (hk.mono (fun _ _ h=>h) fun j p' hj=>by
     obtain ⟨j1,j2⟩:=Qw7 hj
     rw [Qag _ _ (fun h=>hni (by rw [←h];exact j1))];exact j2)
    refine (Q2q xi.a hM he hBi (hB1 _) hno).mono ?_
    rintro r w67 ⟨rfl,xm⟩
    refine ⟨_,rfl,Qaj (fun e=>absurd rfl e) (fun _=>again ?_)⟩
    have hDn:D e=none:=by
     show (if _∧B e=none then _ else none)=none
     rw [if_neg (fun h=>by rw [h.2] at hp;cases hp)]
    rw [et,Qw8,Qw8,hp,hDn,Qk9 hDi]
    exact xi.trans xm
   ·have hBn:B e=none:=by
     cases hx:B e with
     | none=>rfl
     | some p=>rw [hx] at hb;cases hb
    have hDe:D e=some (2*e,2*e+1):=by
     show (if _∧_ then _ else none)=_
     rw [if_pos ⟨he,hBn⟩]
    have hno:¬LK q (till (EL.take i) D) (2*e) (2*e+1):=fun hk=>hFO e _ _ hDe (hk.mono (fun _ _ h=>h) fun j p' hj=>by
     obtain ⟨j1,j2⟩:=Qw7 hj
     rw [Qag _ _ (fun h=>hni (by rw [←h];exact j1))];exact j2)
    refine (Q9w xi.a heN hDi hno).mono ?_
    rintro r w70 ⟨rfl,xt⟩
    refine ⟨_,rfl,Qaj (fun e=>absurd rfl e) (fun _=>again ?_)⟩
    rw [et,Qw8,Qw8,hBn,hDe,Qk9 hBi]
    exact xi.trans xt
  ·have hiE:i=EL.length:=by
    have:¬(i:Int)<((el tl k).length:Nat):=hlt3
    have:EL.length=(el tl k).length:=rfl
    omega
   subst hiE
   have tB:till (EL.take EL.length) B=B:=by
    funext e
    rw [List.take_length]
    unfold till
    by_cases h:e∈EL
    ·rw [if_pos h]
    ·rw [if_neg h]
     cases hx:B e with
     | none=>rfl
     | some p=>exact absurd ((hELm e).2 (cs.bB e p hx).1) h
   have tD:till (EL.take EL.length) D=D:=by
    funext e
    rw [List.take_length]
    unfold till
    by_cases h:e∈EL
    ·rw [if_pos h]
    ·rw [if_neg h]
     cases hx:D e with
     | none=>rfl
     | some p=>exact absurd ((hELm e).2 (cs.bD e p hx).1) h
   rw [tB,tD] at xi
   refine ⟨rfl,B,D,kk k,by rw [Zm5];exact xs56.trans xi,cs.toCB,hmm,fun e he=>?_⟩
   show (if e<k∧_ then _ else _)=_
   rw [if_pos ⟨hM.Qbj he,he⟩]
end
section
variable {w w':World} {N n:Nat} {tl:Nat→List Nat} {vs:List Nat} {vb rb sb:Option Addr} {vc rc sc:Nat} {wl:List Int} {bad:Nat→Prop} {x y:Nat}
theorem Q70 {A:List Nat} (h:A∈ones n):∃x,A=[x]:=by
 unfold ones at h
 obtain ⟨x,_,rfl⟩:=List.mem_map.1 h
 exact ⟨x,rfl⟩
theorem Zjd:FQ id (ones n):=fun A hA x y h=>by
 obtain ⟨z,rfl⟩:=Q70 hA
 have h1:=h.mem
 rw [List.mem_singleton,List.mem_singleton] at h1
 rw [h1.1,h1.2];rfl
theorem Ziv:LK (ones n) (fun _=>none) x y↔x=y:=by
 constructor
 ·intro h
  induction h with
  | refl=>rfl
  | step _ k ih=>
   subst ih
   rcases k with ⟨A,hA,h1,h2⟩ | ⟨i,k | k⟩
   ·obtain ⟨z,rfl⟩:=Q70 hA
    rw [List.mem_singleton] at h1 h2
    rw [h1,h2]
   ·cases k
   ·cases k
 ·rintro rfl;exact LK.refl
theorem Zju (hnd:vs.Nodup) (hlt:∀v∈vs,v<N):cV (fun v=>decide (v∈vs)) N=(vs.length:Nat):=by
 unfold cV
 rw [←Q1l]
 have:((List.range N).filter fun v=>decide (v∈vs)).Perm vs:=Qlf (List.nodup_range.filter _) hnd fun x=>by
  rw [List.mem_filter,List.mem_range,decide_eq_true_iff]
  exact ⟨fun h=>h.2,fun h=>⟨hlt x h,h⟩⟩
 rw [this.length_eq]
def Flt (tl:Nat→List Nat) (N:Nat):Prop:=∀x,x∈dl tl N→vN tl N (og tl N x)-eN tl N (og tl N x)+fN tl N (og tl N x)=2
theorem k_Of (h1:1≤N) (hN:N≤1048576) (hM:MP N tl) (hR:TF w bad rb n tl) (hn:n≤N) (hb:∀v,n≤v→tl v=[]) (hv:VA w vb vs.length 1 (ivs vs)) (hs:VS N tl vs) (hw:VA w sb wl.length 1 (wl.map (.int .i32))) (hwb:∀x∈wl,-2147483648≤x∧x≤2147483647) (hwl:wl.length≤N) :
  Calls Pg 21 #[.int .i64 (N:Nat),.slice vb vs.length vc,.slice rb n rc,.slice sb wl.length sc] w fun r w'=>Chg Qaa w w'∧
   (Flt tl N→∃b q B D ky,r=.returned (.tuple #[.pointer (some ⟨b.M,0,none⟩),errV 0])∧GM w'.heap b N (fun v=>decide (v∈vs)) tl q B D ky∧(∀k,b.has k→w.heap.size≤k)∧∀e,Laid tl N e→ky e=wt wl e*1048576+e)∧
   (¬Flt tl N→r=.returned (.tuple #[.pointer none,errV 15])):=by
 refine (Q4q _ _ _ _ _ _ _ _ _ _).go ?_
 unfold Q2x nr
 have hbN:∀v,N≤v→tl v=[]:=fun v h=>hb v (by omega)
 have hlen:vs.length≤N:=Qbh hs.nd fun x hx=>hs.lt x hx
 refine (Zfk ⟨h1,Nat.le_refl _⟩ ⟨h1,Nat.le_refl _⟩ hN hM hR hn hb fun d hd=>hM.lt d hd).mono ?_
 rintro r w6 ⟨T,TD,TL,TM,rfl,c6,hT,tv⟩
 refine ⟨_,_,rfl,Qaj (fun e=>absurd rfl e) (fun _=>(Zfs tv hM (hv.nob c6) hs).mono ?_)⟩
 rintro r w10 ⟨z,rfl,c10,hz⟩
 have c610:=c6.trans c10
 refine ⟨_,_,rfl,Qaj (fun e=>absurd rfl e) (fun _=>Qac (fun k=>?_) (fun k=>?_))⟩
 ·have hzf:z=false:=by simpa using k
  exact ⟨c610,fun h=>(by rw [hz.2 h] at hzf;cases hzf),fun _=>rfl⟩
 have hzt:z=true:=by simpa using k
 have hfl:=hz.1 hzt
 refine Qac (fun k=>by simp only [b1s] at k;omega) (fun _=>(Q4n h1 hN).mono ?_)
 rintro r w14 ⟨b0,rfl,c14,hb0,mr⟩
 have tv14:=(tv.nob c10).nob c14
 have hTlt:=tv.lt
 have s6:=c6.size
 have s10:=c10.size
 have s14:=c14.size
 let b:Bk:={b0 with T:=T,TD:=TD,TL:=TL,TM:=TM}
 have hhas:∀k,b.has k→(k=T∨k=TD∨k=TL∨k=TM)∨b0.has k∧w10.heap.size≤k:=fun k hk=>by
  rcases hk with h | h | h | h | h | h | h
  ·exact .inr ⟨.inl h,hb0 k (.inl h)⟩
  ·exact .inr ⟨.inr (.inl h),hb0 k (.inr (.inl h))⟩
  ·exact .inr ⟨.inr (.inr (.inl h)),hb0 k (.inr (.inr (.inl h)))⟩
  ·exact .inl h
  ·exact .inr ⟨.inr (.inr (.inr (.inr (.inl h)))),hb0 k (.inr (.inr (.inr (.inr (.inl h)))))⟩
  ·exact .inr ⟨.inr (.inr (.inr (.inr (.inr (.inl h))))),hb0 k (.inr (.inr (.inr (.inr (.inr (.inl h))))))⟩
  ·exact .inr ⟨.inr (.inr (.inr (.inr (.inr (.inr h))))),hb0 k (.inr (.inr (.inr (.inr (.inr (.inr h))))))⟩
 have hnew:∀k,b.has k→w.heap.size≤k:=fun k hk=>by
  rcases hhas k hk with h | h<;>omega
 obtain ⟨x,y,z',o1,o2,o3,o4,o5⟩:=mr.o
 have hb0T:=hb0 b0.T (.inr (.inr (.inr (.inl (.inl rfl)))))
 have hok:b.ok:=⟨x,y,z',⟨show T<x by omega,show TD<x by omega,show TL<x by omega,show TM<x by omega⟩,o2,o3,o4,o5⟩
 have hMlo:w10.heap.size≤b0.M:=hb0 _ (.inl rfl)
 have hLVlo:w10.heap.size≤b0.LV:=hb0 _ (.inr (.inl rfl))
 refine ⟨_,_,rfl,Qaj (fun e=>absurd rfl e) (fun _=>pt_i ?_)⟩
 rw [Qad]
 refine Qao mr.r (by simp [mrow]) rfl fun w17 c17 r17=>?_
 have hMLV:b0.M≠b0.LV:=fun e=>o5.2.1 e.symm
 let J:Nat→List Value→World→Prop:=fun jj us w'=>∃i:Nat,us=[.int .i64 i]∧i≤vs.length∧Chg (fun k=>k=b0.LV) w17 w'∧Row w'.heap b0.LV 4 (recs (bc fun x=>decide (x∈vs.take i)) N)∧jj=vs.length-i
 refine ⟨LI J,LM J,⟨_,0,rfl,by omega,Chg.refl _ _,by simpa using c17.row (fun e=>hMLV e.symm) mr.v,rfl⟩,?_⟩
 intro _ i w21 hJ
 obtain ⟨i,hvs,hi,ck,rk,hj⟩:=hJ.at
 simp only [vj] at hvs
 subst hvs
 have cw:Chg Qaa w w21:=((c610.trans c14).trans' c17 fun k e=>.inr (by omega)).trans' ck fun k e=>.inr (by omega)
 have rM:=ck.row (fun e=>hMLV e) r17
 refine Qac (fun hlt=>?_) (fun hlt=>?_)<;>simp only [b1s] at hlt
 ·obtain ⟨v,hvx⟩:∃v,vs[i]?=some v:=⟨_,List.getElem?_eq_getElem (by omega)⟩
  have hvN:=hs.lt v (List.mem_of_getElem? hvx)
  refine rdI (hv.nob cw) hvx (pt_i ?_)
  rw [Qad]
  refine Qai rM rfl (Qat hvN ?_)
  rw [Nat.zero_add,Nat.mul_one,wrap64_in (by omega) (by omega)]
  refine Qao rk (by rw [Qah (sz:=1) _ (fun _=>rfl)];omega) rfl fun w27 c27 r27=>?_
  rw [Qz5 hvN] at r27
  refine LI.again (k:=vs.length-(i+1)) ⟨i+1,rfl,by omega,ck.trans c27,?_,rfl⟩ (by rw [hj];omega)
  refine (Qbb fun y _=>?_) ▸ r27
  have et:vs.take (i+1)=vs.take i++[v]:=by rw [List.take_add_one,hvx];rfl
  unfold bc
  congr 2
  unfold upd
  rw [et]
  by_cases e:y=v
  ·subst e;simp
  ·rw [if_neg e]
   simp only [List.mem_append,List.mem_singleton,e,or_false]
 ·obtain rfl:i=vs.length:=by omega
  rw [List.take_length] at rk
  refine pt_i ?_
  simp only [Qad]
  refine Qao rM (by simp [mrow]) rfl fun w29 c29 r29=>pt_i ?_
  simp only [Qad]
  refine Qao r29 (by simp [mrow]) rfl fun w31 c31 r31=>?_
  have c2931:=c29.trans c31
  have cM:Chg (fun k=>k=b0.M∨k=b0.LV) w14 w31:=((c17.mono fun _ _ e=>.inl e).trans (ck.mono fun _ _ e=>.inr e)).trans (c2931.mono fun _ _ e=>.inl e)
  have cw31:Chg Qaa w w31:=(c610.trans c14).trans' cM fun k e=>.inr (by omega)
  have hcv:=Zju hs.nd hs.lt
  have mx:MX w31.heap b N (fun v=>decide (v∈vs)) tl (ones (3*N)) (fun _=>none) (fun _=>none) (fun _=>0) 0:=by
   have hnb:∀k,b0.has k→k≠b0.M→k≠b0.LV→¬(k=b0.M∨k=b0.LV):=fun k _ h2 h3 h=>h.elim h2 h3
   obtain ⟨val,f1,f2⟩:=mr.f
   refine ⟨⟨c2931.row (fun e=>hMLV e.symm) rk,cM.row (show ¬(b0.KB=b0.M∨b0.KB=b0.LV) by omega) mr.k,(tv14.keep cM fun k e=>(by have e':k=b0.M∨k=b0.LV:=e;omega)).tb,(show WB w31.heap b0.W b0.R b0.F b0.L b0.CF b0.CL b0.EB (3*N) N (ones (3*N)) (fun _=>none) (fun _=>0) from mr.w.keep cM fun k s=>(by have s':k=b0.M∨k=b0.LV:=s;omega)),⟨val,(show AE w31.heap b0.TF b0.TN (2*N) val (EW [] (fun _=>none) N) from f1.keep cM (by omega) (by omega)),f2⟩,hok,mr.kb⟩,?_⟩
   have e0:cB (fun _=>none) N=0:=by unfold cB;exact Q05
   have e1:∀ky,sB (fun _=>none) ky N=0:=fun ky=>by unfold sB;exact Q05
   have e2:cV (fun _=>false) N=0:=by unfold cV;exact Q05
   have e3:cE (fun _=>[]) N=0:=by
    unfold cE
    rw [Qfi (g:=fun _=>0) fun i _=>?_]
    ·exact Q05
    ·rw [if_neg]
     intro k
     unfold Laid at k
     have:dl (fun _=>[]) N=[]:=by unfold dl;simp
     rw [this] at k;cases k
   rw [e0,e1,hcv,Int.sub_zero]
   unfold mrow at r31 ⊢
   rw [e0,e1,e2,e3] at r31
   exact r31
  refine (Zhi mx hM hbN Zjd fun a c=>Ziv).mono ?_
  rintro r w33 ⟨rfl,q,xs33,hfq⟩
  have hTnew:∀g,0<wl.length→bk sb=some g→¬b.has g:=fun g hl hg hh=>by
   obtain ⟨g',e',hlt'⟩:=hw.blk hl
   rw [e'] at hg
   have e2:g'=g:=Option.some.inj hg
   have:=hnew g hh
   omega
  have hw33:VA w33 sb wl.length 1 (wl.map (.int .i32)):=(hw.nob cw31).keep xs33.c fun g hl hg hch=>hTnew g hl hg (Bk.sub hch)
  refine ⟨_,rfl,Qaj (fun e=>absurd rfl e) (fun _=>(Q9v xs33.a hM hfq hw33 hwb hTnew hfl).mono ?_)⟩
  rintro r w36 ⟨rfl,B,D,ky,xs36,cb,mm,hky⟩
  have cfin:Chg Qaa w w36:=cw31.trans' (xs33.c.trans xs36.c) fun k hk=>.inr (hnew k (Bk.sub hk))
  have hwt:∀e,-2147483648≤wt wl e∧wt wl e≤2147483647:=fun e=>by
   unfold wt
   cases k:wl[e]? with
   | none=>exact ⟨by show (-2147483648:Int)≤0;omega,by show (0:Int)≤_;omega⟩
   | some x=>exact hwb x (List.mem_of_getElem? k)
  refine ⟨_,rfl,cfin,fun _=>⟨b,q,B,D,ky,rfl,⟨xs36.a.m,cb,mm,fun v hv ht=>decide_eq_true (hs.all v hv ht),fun e he=>⟨wt wl e,(hwt e).1,(hwt e).2,hky e he⟩⟩,hnew,hky⟩,fun h=>absurd hfl h⟩
end
end Core
end Go.Proofs.YtfeekmmfdkfgmaaGreatDoor
