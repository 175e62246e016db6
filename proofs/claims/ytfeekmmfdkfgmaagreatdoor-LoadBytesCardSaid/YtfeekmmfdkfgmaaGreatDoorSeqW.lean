/-
The sequences of layer 4: what each inner function makes of the records.
Conditions: the record's own (places within the row).
-/
import Derived.Test.YtfeekmmfdkfgmaaGreatDoorSeqR
import Derived.Test.YtfeekmmfdkfgmaaGreatDoorHsh
set_option linter.unusedVariables false
set_option linter.unusedSimpArgs false
namespace Go.Proofs.YtfeekmmfdkfgmaaGreatDoor
open Go
namespace Seq
def tog (s:S) (c:Int):S:=if c=-1 then s else s.Qa9 c.toNat (!(s.turned c.toNat))
def swapS (s:S) (x:Nat):S:=((s.Qa9 x false).Qa5 x (s.right x)).Qa3 x (s.left x)
def pushS (s:S) (x:Int):S:=
 if s.turned x.toNat then tog (tog (swapS s x.toNat) (s.right x.toNat)) (s.left x.toNat) else s
theorem Qyd {w:World} {F L n:Nat} {s:S} {x:Int} (h:IsF w.heap F L n s) (h0:0≤x) (h1:x<n)
  (hl0:-1≤s.left x.toNat) (hl1:s.left x.toNat<n) (hr0:-1≤s.right x.toNat) (hr1:s.right x.toNat<n) :
  Calls Pg 304 #[.pointer (some ⟨F,0,none⟩),.int .i32 x] w fun e w'=>e=.returned (.tuple #[])∧St w w' F L n (pushS s x):=by
 have hst:=St.start h
 refine (Qte _ _ _ (fun v w'=>v=.tuple #[]∧St w w' F L n (pushS s x)) ?_).mono rti
 unfold Qmu nr
 repeat (first | (with_reducible first | refine pt_i ?_ | refine gF ?_ | refine Qa1 (by omega) (by omega) ?_ | refine g0 ?_ | refine g1 ?_ | refine g2 ?_ | refine g3 ?_ | refine g4 ?_ | refine g5 ?_ | refine g6 ?_ | refine g7 ?_ | refine g8 ?_ | refine s0 fun _ hst=>?_ | refine s1 fun _ hst=>?_ | refine s2 fun _ hst=>?_ | refine s3 fun _ hst=>?_ | refine s4 fun _ hst=>?_ | refine s5 fun _ hst=>?_ | refine s6 fun _ hst=>?_ | refine s7 fun _ hst=>?_ | refine s8 fun _ hst=>?_) | simp only [projS,Qab])
 refine Qac (fun hc=>?_) (fun hc=>?_)<;>simp only [b1s] at hc
 ·have:pushS s x=s:=by simp [pushS,hc]
  rw [this];(refine ⟨by first | rfl | trivial,?_⟩;(exact stf))
 ·repeat (first | (with_reducible first | refine pt_i ?_ | refine gF ?_ | refine Qa1 (by omega) (by omega) ?_ | refine g0 ?_ | refine g1 ?_ | refine g2 ?_ | refine g3 ?_ | refine g4 ?_ | refine g5 ?_ | refine g6 ?_ | refine g7 ?_ | refine g8 ?_ | refine s0 fun _ hst=>?_ | refine s1 fun _ hst=>?_ | refine s2 fun _ hst=>?_ | refine s3 fun _ hst=>?_ | refine s4 fun _ hst=>?_ | refine s5 fun _ hst=>?_ | refine s6 fun _ hst=>?_ | refine s7 fun _ hst=>?_ | refine s8 fun _ hst=>?_) | simp only [projS,Qab])
  have hs:pushS s x=tog (tog (swapS s x.toNat) (s.right x.toNat)) (s.left x.toNat):=by simp [pushS,hc]
  rw [hs]
  refine ⟨_,by decide,by decide,rfl,?_⟩
  refine Qac (fun hc1=>?_) (fun hc1=>?_)<;>simp only [b1s] at hc1
  ·rw [tog,tog,if_neg hc1]
   repeat (first | (with_reducible first | refine pt_i ?_ | refine gF ?_ | refine Qa1 (by omega) (by omega) ?_ | refine g0 ?_ | refine g1 ?_ | refine g2 ?_ | refine g3 ?_ | refine g4 ?_ | refine g5 ?_ | refine g6 ?_ | refine g7 ?_ | refine g8 ?_ | refine s0 fun _ hst=>?_ | refine s1 fun _ hst=>?_ | refine s2 fun _ hst=>?_ | refine s3 fun _ hst=>?_ | refine s4 fun _ hst=>?_ | refine s5 fun _ hst=>?_ | refine s6 fun _ hst=>?_ | refine s7 fun _ hst=>?_ | refine s8 fun _ hst=>?_) | simp only [projS,Qab])
   refine ⟨_,by decide,by decide,rfl,?_⟩
   refine Qac (fun hc2=>?_) (fun hc2=>?_)<;>simp only [b1s] at hc2
   ·rw [if_neg hc2]
    repeat (first | (with_reducible first | refine pt_i ?_ | refine gF ?_ | refine Qa1 (by omega) (by omega) ?_ | refine g0 ?_ | refine g1 ?_ | refine g2 ?_ | refine g3 ?_ | refine g4 ?_ | refine g5 ?_ | refine g6 ?_ | refine g7 ?_ | refine g8 ?_ | refine s0 fun _ hst=>?_ | refine s1 fun _ hst=>?_ | refine s2 fun _ hst=>?_ | refine s3 fun _ hst=>?_ | refine s4 fun _ hst=>?_ | refine s5 fun _ hst=>?_ | refine s6 fun _ hst=>?_ | refine s7 fun _ hst=>?_ | refine s8 fun _ hst=>?_) | simp only [projS,Qab])
    (refine ⟨by first | rfl | trivial,?_⟩;(exact stf))
   ·rw [if_pos hc2]
    (refine ⟨by first | rfl | trivial,?_⟩;(exact stf))
  ·rw [tog,tog,if_pos hc1]
   refine ⟨_,by decide,by decide,rfl,?_⟩
   refine Qac (fun hc2=>?_) (fun hc2=>?_)<;>simp only [b1s] at hc2
   ·rw [if_neg hc2]
    repeat (first | (with_reducible first | refine pt_i ?_ | refine gF ?_ | refine Qa1 (by omega) (by omega) ?_ | refine g0 ?_ | refine g1 ?_ | refine g2 ?_ | refine g3 ?_ | refine g4 ?_ | refine g5 ?_ | refine g6 ?_ | refine g7 ?_ | refine g8 ?_ | refine s0 fun _ hst=>?_ | refine s1 fun _ hst=>?_ | refine s2 fun _ hst=>?_ | refine s3 fun _ hst=>?_ | refine s4 fun _ hst=>?_ | refine s5 fun _ hst=>?_ | refine s6 fun _ hst=>?_ | refine s7 fun _ hst=>?_ | refine s8 fun _ hst=>?_) | simp only [projS,Qab])
    (refine ⟨by first | rfl | trivial,?_⟩;(exact stf))
   ·rw [if_pos hc2]
    (refine ⟨by first | rfl | trivial,?_⟩;(exact stf))
def Wf (n:Nat) (s:S):Prop:=∀i,i<n→(-1≤s.up i∧s.up i<n)∧(-1≤s.left i∧s.left i<n)∧(-1≤s.right i∧s.right i<n)
def addC (s:S) (x:Nat) (c:Int):S:=
 if c=-1 then s else
  let s1:=s.Qc1 x (IntKind.i32.wrap (s.size x+s.size c.toNat))
  let s2:=s1.Qgy x (IntKind.i64.wrap (s.sum x+s.sum c.toNat))
  let s3:=s2.Qbz x (if s.least c.toNat<s.least x then s.least c.toNat else s.least x)
  s3.Qc2 x (if s.most c.toNat>s.most x then s.most c.toNat else s.most x)
def ownS (s:S) (x:Nat):S:=(((s.Qc1 x 1).Qgy x (s.value x)).Qbz x (s.value x)).Qc2 x (s.value x)
def pullS (s:S) (x:Int):S:=addC (addC (ownS s x.toNat) x.toNat (s.left x.toNat)) x.toNat (s.right x.toNat)
theorem Qky {w:World} {F L n:Nat} {s:S} {x:Int} (h:IsF w.heap F L n s) (h0:0≤x) (h1:x<n) (hw:Wf n s) :
  Calls Pg 298 #[.pointer (some ⟨F,0,none⟩),.int .i32 x] w fun e w'=>e=.returned (.tuple #[])∧St w w' F L n (pullS s x):=by
 have hst:=St.start h
 obtain ⟨_,⟨hl0,hl1⟩,hr0,hr1⟩:=hw x.toNat (by omega)
 refine (Qtf _ _ _ (fun v w'=>v=.tuple #[]∧St w w' F L n (pullS s x)) ?_).mono rti
 unfold Qmv nr
 repeat (first | (with_reducible first | refine pt_i ?_ | refine gF ?_ | refine Qa1 (by omega) (by omega) ?_ | refine g0 ?_ | refine g1 ?_ | refine g2 ?_ | refine g3 ?_ | refine g4 ?_ | refine g5 ?_ | refine g6 ?_ | refine g7 ?_ | refine g8 ?_ | refine s0 fun _ hst=>?_ | refine s1 fun _ hst=>?_ | refine s2 fun _ hst=>?_ | refine s3 fun _ hst=>?_ | refine s4 fun _ hst=>?_ | refine s5 fun _ hst=>?_ | refine s6 fun _ hst=>?_ | refine s7 fun _ hst=>?_ | refine s8 fun _ hst=>?_) | simp only [projS,Qab])
 refine ⟨_,by decide,by decide,rfl,?_⟩
 refine Qac (fun hc1=>?_) (fun hc1=>?_)<;>simp only [b1s] at hc1
 ·refine ⟨_,by decide,by decide,rfl,?_⟩
  refine Qac (fun hc2=>?_) (fun hc2=>?_)<;>simp only [b1s] at hc2
  ·have e:pullS s x=ownS s x.toNat:=by rw [pullS,addC,addC,if_pos hc1,if_pos hc2]
   rw [e];(refine ⟨by first | rfl | trivial,?_⟩;(exact stf))
  ·have e:pullS s x=addC (ownS s x.toNat) x.toNat (s.right x.toNat):=by rw [pullS,addC,addC,if_pos hc1,if_neg hc2,addC,if_neg hc2]
   rw [e,addC,if_neg hc2]
   repeat (first | (with_reducible first | refine pt_i ?_ | refine gF ?_ | refine Qa1 (by omega) (by omega) ?_ | refine g0 ?_ | refine g1 ?_ | refine g2 ?_ | refine g3 ?_ | refine g4 ?_ | refine g5 ?_ | refine g6 ?_ | refine g7 ?_ | refine g8 ?_ | refine s0 fun _ hst=>?_ | refine s1 fun _ hst=>?_ | refine s2 fun _ hst=>?_ | refine s3 fun _ hst=>?_ | refine s4 fun _ hst=>?_ | refine s5 fun _ hst=>?_ | refine s6 fun _ hst=>?_ | refine s7 fun _ hst=>?_ | refine s8 fun _ hst=>?_) | simp only [projS,Qab])
   (refine ⟨by first | rfl | trivial,?_⟩;simp only [ownS,projS,Qab] at hst ⊢;(exact stf))
 ·repeat (first | (with_reducible first | refine pt_i ?_ | refine gF ?_ | refine Qa1 (by omega) (by omega) ?_ | refine g0 ?_ | refine g1 ?_ | refine g2 ?_ | refine g3 ?_ | refine g4 ?_ | refine g5 ?_ | refine g6 ?_ | refine g7 ?_ | refine g8 ?_ | refine s0 fun _ hst=>?_ | refine s1 fun _ hst=>?_ | refine s2 fun _ hst=>?_ | refine s3 fun _ hst=>?_ | refine s4 fun _ hst=>?_ | refine s5 fun _ hst=>?_ | refine s6 fun _ hst=>?_ | refine s7 fun _ hst=>?_ | refine s8 fun _ hst=>?_) | simp only [projS,Qab])
  refine ⟨_,by decide,by decide,rfl,?_⟩
  refine Qac (fun hc2=>?_) (fun hc2=>?_)<;>simp only [b1s] at hc2
  ·rw [pullS,addC.eq_1 _ _ (s.right x.toNat),if_pos hc2,addC,if_neg hc1]
   (refine ⟨by first | rfl | trivial,?_⟩;simp only [ownS,projS,Qab] at hst ⊢;(exact stf))
  ·rw [pullS,addC.eq_1 _ _ (s.right x.toNat),if_neg hc2,addC,if_neg hc1]
   repeat (first | (with_reducible first | refine pt_i ?_ | refine gF ?_ | refine Qa1 (by omega) (by omega) ?_ | refine g0 ?_ | refine g1 ?_ | refine g2 ?_ | refine g3 ?_ | refine g4 ?_ | refine g5 ?_ | refine g6 ?_ | refine g7 ?_ | refine g8 ?_ | refine s0 fun _ hst=>?_ | refine s1 fun _ hst=>?_ | refine s2 fun _ hst=>?_ | refine s3 fun _ hst=>?_ | refine s4 fun _ hst=>?_ | refine s5 fun _ hst=>?_ | refine s6 fun _ hst=>?_ | refine s7 fun _ hst=>?_ | refine s8 fun _ hst=>?_) | simp only [projS,Qab])
   (refine ⟨by first | rfl | trivial,?_⟩;simp only [ownS,projS,Qab] at hst ⊢;(exact stf))
def hangS (s:S) (c x:Int) (left:Bool):S:=
 let s1:=if left then s.Qa5 x.toNat c else s.Qa3 x.toNat c
 if c=-1 then s1 else s1.w_up c.toNat x
theorem Qye {w:World} {F L n:Nat} {s:S} {c x:Int} {left:Bool} (h:IsF w.heap F L n s) (h0:0≤x) (h1:x<n) (hc0:-1≤c) (hc1:c<n) :
  Calls Pg 297 #[.pointer (some ⟨F,0,none⟩),.int .i32 c,.int .i32 x,.bool left] w fun e w'=>e=.returned (.tuple #[])∧St w w' F L n (hangS s c x left):=by
 have hst:=St.start h
 refine (Qth _ _ _ _ _ (fun v w'=>v=.tuple #[]∧St w w' F L n (hangS s c x left)) ?_).mono rti
 unfold Qmx nr
 cases left
 all_goals
  simp only [cond_true,cond_false,hangS]
  repeat (first | (with_reducible first | refine pt_i ?_ | refine gF ?_ | refine Qa1 (by omega) (by omega) ?_ | refine g0 ?_ | refine g1 ?_ | refine g2 ?_ | refine g3 ?_ | refine g4 ?_ | refine g5 ?_ | refine g6 ?_ | refine g7 ?_ | refine g8 ?_ | refine s0 fun _ hst=>?_ | refine s1 fun _ hst=>?_ | refine s2 fun _ hst=>?_ | refine s3 fun _ hst=>?_ | refine s4 fun _ hst=>?_ | refine s5 fun _ hst=>?_ | refine s6 fun _ hst=>?_ | refine s7 fun _ hst=>?_ | refine s8 fun _ hst=>?_) | simp only [projS,Qab])
  refine Qac (fun hc1=>?_) (fun hc1=>?_)<;>simp only [b1s] at hc1
  ·rw [if_neg hc1]
   repeat (first | (with_reducible first | refine pt_i ?_ | refine gF ?_ | refine Qa1 (by omega) (by omega) ?_ | refine g0 ?_ | refine g1 ?_ | refine g2 ?_ | refine g3 ?_ | refine g4 ?_ | refine g5 ?_ | refine g6 ?_ | refine g7 ?_ | refine g8 ?_ | refine s0 fun _ hst=>?_ | refine s1 fun _ hst=>?_ | refine s2 fun _ hst=>?_ | refine s3 fun _ hst=>?_ | refine s4 fun _ hst=>?_ | refine s5 fun _ hst=>?_ | refine s6 fun _ hst=>?_ | refine s7 fun _ hst=>?_ | refine s8 fun _ hst=>?_) | simp only [projS,Qab])
   (refine ⟨by first | rfl | trivial,?_⟩;(exact stf))
  ·rw [if_pos hc1]
   (refine ⟨by first | rfl | trivial,?_⟩;(exact stf))
theorem Qfq {n:Nat} {s:S} {c x:Int} {left:Bool} (hw:Wf n s) (h0:0≤x) (h1:x<n) (hc0:-1≤c) (hc1:c<n):Wf n (hangS s c x left):=by
 intro i hi
 have h:=hw i hi
 unfold hangS
 cases left<;>simp only [if_true,Bool.false_eq_true,if_false]<;>split<;>simp [upd]<;>(repeat' split)<;>omega
theorem Q0y {n:Nat} {s:S} {c:Int} {x:Nat} (hw:Wf n s) (hc0:-1≤c) (hc1:c<n):Wf n (s.w_up x c):=by
 intro i hi
 have h:=hw i hi
 simp [upd];split<;>omega
theorem Qlv (s:S) (x:Int):(pullS s x).up=s.up∧(pullS s x).left=s.left∧(pullS s x).right=s.right∧(pullS s x).turned=s.turned∧(pullS s x).value=s.value:=by
 unfold pullS addC ownS
 (repeat' split)<;>simp
theorem Qqr {n:Nat} {s:S} {x:Int} (hw:Wf n s):Wf n (pullS s x):=by
 obtain ⟨a,b,c,_⟩:=Qlv s x
 intro i hi
 rw [a,b,c];exact hw i hi
def rotS (s:S) (x:Int):S:=
 let p:=s.up x.toNat
 let g:=s.up p.toNat
 let left:=s.left p.toNat==x
 let s1:=if left then hangS s (s.right x.toNat) p true else hangS s (s.left x.toNat) p false
 let above:=g != -1&&s1.left g.toNat==p
 let s2:=hangS s1 p x (!left)
 let s3:=s2.w_up x.toNat g
 let s4:=if g=-1 then s3 else hangS s3 x g above
 pullS (pullS s4 p) x
theorem Qrb {w:World} {F L n:Nat} {s:S} {x:Int} (h:IsF w.heap F L n s) (h0:0≤x) (h1:x<n) (hw:Wf n s) (hp:s.up x.toNat≠-1) :
  Calls Pg 310 #[.pointer (some ⟨F,0,none⟩),.int .i32 x] w fun e w'=>e=.returned (.tuple #[])∧St w w' F L n (rotS s x):=by
 have hst:=St.start h
 obtain ⟨⟨hp0,hp1⟩,⟨hl0,hl1⟩,hr0,hr1⟩:=hw x.toNat (by omega)
 obtain ⟨⟨hg0,hg1⟩,⟨hpl0,hpl1⟩,_⟩:=hw (s.up x.toNat).toNat (by omega)
 have hpp:0≤s.up x.toNat:=by omega
 refine (Qq1 _ _ _ (fun v w'=>v=.tuple #[]∧St w w' F L n (rotS s x)) ?_).mono rti
 unfold Qka nr
 repeat (first | (with_reducible first | refine pt_i ?_ | refine gF ?_ | refine Qa1 (by omega) (by omega) ?_ | refine g0 ?_ | refine g1 ?_ | refine g2 ?_ | refine g3 ?_ | refine g4 ?_ | refine g5 ?_ | refine g6 ?_ | refine g7 ?_ | refine g8 ?_ | refine s0 fun _ hst=>?_ | refine s1 fun _ hst=>?_ | refine s2 fun _ hst=>?_ | refine s3 fun _ hst=>?_ | refine s4 fun _ hst=>?_ | refine s5 fun _ hst=>?_ | refine s6 fun _ hst=>?_ | refine s7 fun _ hst=>?_ | refine s8 fun _ hst=>?_) | simp only [projS,Qab])
 refine Qac (fun hL=>?_) (fun hL=>?_)
 ·repeat (first | (with_reducible first | refine pt_i ?_ | refine gF ?_ | refine Qa1 (by omega) (by omega) ?_ | refine g0 ?_ | refine g1 ?_ | refine g2 ?_ | refine g3 ?_ | refine g4 ?_ | refine g5 ?_ | refine g6 ?_ | refine g7 ?_ | refine g8 ?_ | refine s0 fun _ hst=>?_ | refine s1 fun _ hst=>?_ | refine s2 fun _ hst=>?_ | refine s3 fun _ hst=>?_ | refine s4 fun _ hst=>?_ | refine s5 fun _ hst=>?_ | refine s6 fun _ hst=>?_ | refine s7 fun _ hst=>?_ | refine s8 fun _ hst=>?_) | simp only [projS,Qab])
  refine (Qye hst.i hpp hp1 hr0 hr1).mono ?_
  rintro e w' ⟨rfl,hst'⟩;refine ⟨rfl,?_⟩;have hst:=St.trans stf hst';clear hst'
  have hw1:=Qfq (left:=true) hw hpp hp1 hr0 hr1
  refine Qac (fun hg=>?_) (fun hg=>?_)<;>simp only [b1s] at hg
  ·repeat (first | (with_reducible first | refine pt_i ?_ | refine gF ?_ | refine Qa1 (by omega) (by omega) ?_ | refine g0 ?_ | refine g1 ?_ | refine g2 ?_ | refine g3 ?_ | refine g4 ?_ | refine g5 ?_ | refine g6 ?_ | refine g7 ?_ | refine g8 ?_ | refine s0 fun _ hst=>?_ | refine s1 fun _ hst=>?_ | refine s2 fun _ hst=>?_ | refine s3 fun _ hst=>?_ | refine s4 fun _ hst=>?_ | refine s5 fun _ hst=>?_ | refine s6 fun _ hst=>?_ | refine s7 fun _ hst=>?_ | refine s8 fun _ hst=>?_) | simp only [projS,Qab])
   refine (Qye hst.i h0 h1 hp0 hp1).mono ?_
   rintro e w' ⟨rfl,hst'⟩;refine ⟨rfl,?_⟩;have hst:=St.trans stf hst';clear hst'
   have hw2:=Qfq (left:=!(s.left (s.up x.toNat).toNat==x)) hw1 h0 h1 hp0 hp1
   repeat (first | (with_reducible first | refine pt_i ?_ | refine gF ?_ | refine Qa1 (by omega) (by omega) ?_ | refine g0 ?_ | refine g1 ?_ | refine g2 ?_ | refine g3 ?_ | refine g4 ?_ | refine g5 ?_ | refine g6 ?_ | refine g7 ?_ | refine g8 ?_ | refine s0 fun _ hst=>?_ | refine s1 fun _ hst=>?_ | refine s2 fun _ hst=>?_ | refine s3 fun _ hst=>?_ | refine s4 fun _ hst=>?_ | refine s5 fun _ hst=>?_ | refine s6 fun _ hst=>?_ | refine s7 fun _ hst=>?_ | refine s8 fun _ hst=>?_) | simp only [projS,Qab])
   have hw3:=Q0y (x:=x.toNat) hw2 hg0 hg1
   refine Qac (fun hg'=>?_) (fun hg'=>?_)<;>simp only [b1s] at hg'
   ·refine (Qye hst.i (by omega) hg1 (by omega) h1).mono ?_
    rintro e w' ⟨rfl,hst'⟩;refine ⟨rfl,?_⟩;have hst:=St.trans stf hst';clear hst'
    have hw4:=Qfq (left:=(hangS s (s.right x.toNat) (s.up x.toNat) true).left (s.up (s.up x.toNat).toNat).toNat==s.up x.toNat) hw3 (by omega:0≤s.up (s.up x.toNat).toNat) hg1 (by omega:-1≤x) h1
    refine (Qky hst.i hpp hp1 hw4).mono ?_
    rintro e w' ⟨rfl,hst'⟩;refine ⟨rfl,?_⟩;have hst:=St.trans stf hst';clear hst'
    refine (Qky hst.i h0 h1 (Qqr hw4)).mono ?_
    rintro e w' ⟨rfl,hst'⟩;refine ⟨rfl,?_⟩;have hst:=St.trans stf hst';clear hst'
    have e:rotS s x=pullS (pullS (hangS ((hangS (hangS s (s.right x.toNat) (s.up x.toNat) true) (s.up x.toNat) x (!(s.left (s.up x.toNat).toNat==x))).w_up x.toNat (s.up (s.up x.toNat).toNat)) x (s.up (s.up x.toNat).toNat) ((hangS s (s.right x.toNat) (s.up x.toNat) true).left (s.up (s.up x.toNat).toNat).toNat==s.up x.toNat)) (s.up x.toNat)) x:=by
     have hgb:(s.up (s.up x.toNat).toNat != -1)=true:=by simpa using hg
     simp only [rotS,hL,if_true,if_neg hg,hgb,Bool.true_and]
    rw [e];(refine ⟨by first | rfl | trivial,?_⟩;(exact stf))
   ·exact absurd hg' hg
  ·refine (Qye hst.i h0 h1 hp0 hp1).mono ?_
   rintro e w' ⟨rfl,hst'⟩;refine ⟨rfl,?_⟩;have hst:=St.trans stf hst';clear hst'
   have hw2:=Qfq (left:=!(s.left (s.up x.toNat).toNat==x)) hw1 h0 h1 hp0 hp1
   repeat (first | (with_reducible first | refine pt_i ?_ | refine gF ?_ | refine Qa1 (by omega) (by omega) ?_ | refine g0 ?_ | refine g1 ?_ | refine g2 ?_ | refine g3 ?_ | refine g4 ?_ | refine g5 ?_ | refine g6 ?_ | refine g7 ?_ | refine g8 ?_ | refine s0 fun _ hst=>?_ | refine s1 fun _ hst=>?_ | refine s2 fun _ hst=>?_ | refine s3 fun _ hst=>?_ | refine s4 fun _ hst=>?_ | refine s5 fun _ hst=>?_ | refine s6 fun _ hst=>?_ | refine s7 fun _ hst=>?_ | refine s8 fun _ hst=>?_) | simp only [projS,Qab])
   have hw3:=Q0y (x:=x.toNat) hw2 hg0 hg1
   refine Qac (fun hg'=>?_) (fun hg'=>?_)<;>simp only [b1s] at hg'
   ·exact absurd hg hg'
   ·refine (Qky hst.i hpp hp1 hw3).mono ?_
    rintro e w' ⟨rfl,hst'⟩;refine ⟨rfl,?_⟩;have hst:=St.trans stf hst';clear hst'
    refine (Qky hst.i h0 h1 (Qqr hw3)).mono ?_
    rintro e w' ⟨rfl,hst'⟩;refine ⟨rfl,?_⟩;have hst:=St.trans stf hst';clear hst'
    have e:rotS s x=pullS (pullS ((hangS (hangS s (s.right x.toNat) (s.up x.toNat) true) (s.up x.toNat) x (!(s.left (s.up x.toNat).toNat==x))).w_up x.toNat (s.up (s.up x.toNat).toNat)) (s.up x.toNat)) x:=by
     simp only [rotS,hL,if_true,if_pos hg]
    rw [e];(refine ⟨by first | rfl | trivial,?_⟩;(exact stf))
 ·repeat (first | (with_reducible first | refine pt_i ?_ | refine gF ?_ | refine Qa1 (by omega) (by omega) ?_ | refine g0 ?_ | refine g1 ?_ | refine g2 ?_ | refine g3 ?_ | refine g4 ?_ | refine g5 ?_ | refine g6 ?_ | refine g7 ?_ | refine g8 ?_ | refine s0 fun _ hst=>?_ | refine s1 fun _ hst=>?_ | refine s2 fun _ hst=>?_ | refine s3 fun _ hst=>?_ | refine s4 fun _ hst=>?_ | refine s5 fun _ hst=>?_ | refine s6 fun _ hst=>?_ | refine s7 fun _ hst=>?_ | refine s8 fun _ hst=>?_) | simp only [projS,Qab])
  refine (Qye hst.i hpp hp1 hl0 hl1).mono ?_
  rintro e w' ⟨rfl,hst'⟩;refine ⟨rfl,?_⟩;have hst:=St.trans stf hst';clear hst'
  have hw1:=Qfq (left:=false) hw hpp hp1 hl0 hl1
  refine Qac (fun hg=>?_) (fun hg=>?_)<;>simp only [b1s] at hg
  ·repeat (first | (with_reducible first | refine pt_i ?_ | refine gF ?_ | refine Qa1 (by omega) (by omega) ?_ | refine g0 ?_ | refine g1 ?_ | refine g2 ?_ | refine g3 ?_ | refine g4 ?_ | refine g5 ?_ | refine g6 ?_ | refine g7 ?_ | refine g8 ?_ | refine s0 fun _ hst=>?_ | refine s1 fun _ hst=>?_ | refine s2 fun _ hst=>?_ | refine s3 fun _ hst=>?_ | refine s4 fun _ hst=>?_ | refine s5 fun _ hst=>?_ | refine s6 fun _ hst=>?_ | refine s7 fun _ hst=>?_ | refine s8 fun _ hst=>?_) | simp only [projS,Qab])
   refine (Qye hst.i h0 h1 hp0 hp1).mono ?_
   rintro e w' ⟨rfl,hst'⟩;refine ⟨rfl,?_⟩;have hst:=St.trans stf hst';clear hst'
   have hw2:=Qfq (left:=!(s.left (s.up x.toNat).toNat==x)) hw1 h0 h1 hp0 hp1
   repeat (first | (with_reducible first | refine pt_i ?_ | refine gF ?_ | refine Qa1 (by omega) (by omega) ?_ | refine g0 ?_ | refine g1 ?_ | refine g2 ?_ | refine g3 ?_ | refine g4 ?_ | refine g5 ?_ | refine g6 ?_ | refine g7 ?_ | refine g8 ?_ | refine s0 fun _ hst=>?_ | refine s1 fun _ hst=>?_ | refine s2 fun _ hst=>?_ | refine s3 fun _ hst=>?_ | refine s4 fun _ hst=>?_ | refine s5 fun _ hst=>?_ | refine s6 fun _ hst=>?_ | refine s7 fun _ hst=>?_ | refine s8 fun _ hst=>?_) | simp only [projS,Qab])
   have hw3:=Q0y (x:=x.toNat) hw2 hg0 hg1
   refine Qac (fun hg'=>?_) (fun hg'=>?_)<;>simp only [b1s] at hg'
   ·refine (Qye hst.i (by omega) hg1 (by omega) h1).mono ?_
    rintro e w' ⟨rfl,hst'⟩;refine ⟨rfl,?_⟩;have hst:=St.trans stf hst';clear hst'
    have hw4:=Qfq (left:=(hangS s (s.left x.toNat) (s.up x.toNat) false).left (s.up (s.up x.toNat).toNat).toNat==s.up x.toNat) hw3 (by omega:0≤s.up (s.up x.toNat).toNat) hg1 (by omega:-1≤x) h1
    refine (Qky hst.i hpp hp1 hw4).mono ?_
    rintro e w' ⟨rfl,hst'⟩;refine ⟨rfl,?_⟩;have hst:=St.trans stf hst';clear hst'
    refine (Qky hst.i h0 h1 (Qqr hw4)).mono ?_
    rintro e w' ⟨rfl,hst'⟩;refine ⟨rfl,?_⟩;have hst:=St.trans stf hst';clear hst'
    have e:rotS s x=pullS (pullS (hangS ((hangS (hangS s (s.left x.toNat) (s.up x.toNat) false) (s.up x.toNat) x (!(s.left (s.up x.toNat).toNat==x))).w_up x.toNat (s.up (s.up x.toNat).toNat)) x (s.up (s.up x.toNat).toNat) ((hangS s (s.left x.toNat) (s.up x.toNat) false).left (s.up (s.up x.toNat).toNat).toNat==s.up x.toNat)) (s.up x.toNat)) x:=by
     have hgb:(s.up (s.up x.toNat).toNat != -1)=true:=by simpa using hg
     simp only [rotS,hL,Bool.false_eq_true,if_false,if_neg hg,hgb,Bool.true_and]
    rw [e];(refine ⟨by first | rfl | trivial,?_⟩;(exact stf))
   ·exact absurd hg' hg
  ·refine (Qye hst.i h0 h1 hp0 hp1).mono ?_
   rintro e w' ⟨rfl,hst'⟩;refine ⟨rfl,?_⟩;have hst:=St.trans stf hst';clear hst'
   have hw2:=Qfq (left:=!(s.left (s.up x.toNat).toNat==x)) hw1 h0 h1 hp0 hp1
   repeat (first | (with_reducible first | refine pt_i ?_ | refine gF ?_ | refine Qa1 (by omega) (by omega) ?_ | refine g0 ?_ | refine g1 ?_ | refine g2 ?_ | refine g3 ?_ | refine g4 ?_ | refine g5 ?_ | refine g6 ?_ | refine g7 ?_ | refine g8 ?_ | refine s0 fun _ hst=>?_ | refine s1 fun _ hst=>?_ | refine s2 fun _ hst=>?_ | refine s3 fun _ hst=>?_ | refine s4 fun _ hst=>?_ | refine s5 fun _ hst=>?_ | refine s6 fun _ hst=>?_ | refine s7 fun _ hst=>?_ | refine s8 fun _ hst=>?_) | simp only [projS,Qab])
   have hw3:=Q0y (x:=x.toNat) hw2 hg0 hg1
   refine Qac (fun hg'=>?_) (fun hg'=>?_)<;>simp only [b1s] at hg'
   ·exact absurd hg hg'
   ·refine (Qky hst.i hpp hp1 hw3).mono ?_
    rintro e w' ⟨rfl,hst'⟩;refine ⟨rfl,?_⟩;have hst:=St.trans stf hst';clear hst'
    refine (Qky hst.i h0 h1 (Qqr hw3)).mono ?_
    rintro e w' ⟨rfl,hst'⟩;refine ⟨rfl,?_⟩;have hst:=St.trans stf hst';clear hst'
    have e:rotS s x=pullS (pullS ((hangS (hangS s (s.left x.toNat) (s.up x.toNat) false) (s.up x.toNat) x (!(s.left (s.up x.toNat).toNat==x))).w_up x.toNat (s.up (s.up x.toNat).toNat)) (s.up x.toNat)) x:=by
     simp only [rotS,hL,Bool.false_eq_true,if_false,if_pos hg]
    rw [e];(refine ⟨by first | rfl | trivial,?_⟩;(exact stf))
end Seq
end Go.Proofs.YtfeekmmfdkfgmaaGreatDoor
