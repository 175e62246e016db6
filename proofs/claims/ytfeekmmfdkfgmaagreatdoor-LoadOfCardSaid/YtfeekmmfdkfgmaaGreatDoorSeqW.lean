/-
The sequences of layer 4: what each inner function makes of the records.
Conditions: the record's own (places within the row).
-/
import Derived.Test.YtfeekmmfdkfgmaaGreatDoorSeqR
import Derived.Test.YtfeekmmfdkfgmaaGreatDoorHsh
set_option linter.unusedVariables false
set_option linter.unusedSimpArgs false
namespace Go.Proofs.YtfeekmmfdkfgmaaGreatDoor
open Go
namespace Seq
def tog (s:S) (c:Int):S:=if c=-1 then s else s.Qa5 c.toNat (!(s.turned c.toNat))
def swapS (s:S) (x:Nat):S:=((s.Qa5 x false).Qa2 x (s.right x)).Qa0 x (s.left x)
def pushS (s:S) (x:Int):S:=
 if s.turned x.toNat then tog (tog (swapS s x.toNat) (s.right x.toNat)) (s.left x.toNat) else s
theorem Qxc {w:World} {F L n:Nat} {s:S} {x:Int} (h:IsF w.heap F L n s) (h0:0≤x) (h1:x<n)
  (hl0:-1≤s.left x.toNat) (hl1:s.left x.toNat<n) (hr0:-1≤s.right x.toNat) (hr1:s.right x.toNat<n) :
  Calls Pg Qnc #[.pointer (some ⟨F,0,none⟩),.int .i32 x] w fun e w'=>e=.returned (.tuple #[])∧St w w' F L n (pushS s x):=by
 have hst:=St.start h
 refine (Qso _ _ _ (fun v w'=>v=.tuple #[]∧St w w' F L n (pushS s x)) ?_).mono rti
 unfold Ql4 nr
 repeat (first | (with_reducible first | refine pt_i ?_ | refine gF (k:=?_) | refine Qay (by omega) (by omega) ?_ | refine g0 (k:=?_) | refine g1 (k:=?_) | refine g2 (k:=?_) | refine g3 (k:=?_) | refine g4 (k:=?_) | refine g5 (k:=?_) | refine g6 (k:=?_) | refine g7 (k:=?_) | refine g8 (k:=?_) | refine s0 (k:=fun _ hst=>?_) | refine s1 (k:=fun _ hst=>?_) | refine s2 (k:=fun _ hst=>?_) | refine s3 (k:=fun _ hst=>?_) | refine s4 (k:=fun _ hst=>?_) | refine s5 (k:=fun _ hst=>?_) | refine s6 (k:=fun _ hst=>?_) | refine s7 (k:=fun _ hst=>?_) | refine s8 (k:=fun _ hst=>?_)) | simp only [projS,Qab])
 refine Qac (fun hc=>?_) (fun hc=>?_)<;>simp only [b1s] at hc
 ·have:pushS s x=s:=by simp [pushS,hc]
  rw [this];(refine ⟨by first | rfl | trivial,?_⟩;(exact stf))
 ·repeat (first | (with_reducible first | refine pt_i ?_ | refine gF (k:=?_) | refine Qay (by omega) (by omega) ?_ | refine g0 (k:=?_) | refine g1 (k:=?_) | refine g2 (k:=?_) | refine g3 (k:=?_) | refine g4 (k:=?_) | refine g5 (k:=?_) | refine g6 (k:=?_) | refine g7 (k:=?_) | refine g8 (k:=?_) | refine s0 (k:=fun _ hst=>?_) | refine s1 (k:=fun _ hst=>?_) | refine s2 (k:=fun _ hst=>?_) | refine s3 (k:=fun _ hst=>?_) | refine s4 (k:=fun _ hst=>?_) | refine s5 (k:=fun _ hst=>?_) | refine s6 (k:=fun _ hst=>?_) | refine s7 (k:=fun _ hst=>?_) | refine s8 (k:=fun _ hst=>?_)) | simp only [projS,Qab])
  have hs:pushS s x=tog (tog (swapS s x.toNat) (s.right x.toNat)) (s.left x.toNat):=by simp [pushS,hc]
  rw [hs]
  refine ⟨_,by decide,by decide,rfl,?_⟩
  refine Qac (fun hc1=>?_) (fun hc1=>?_)<;>simp only [b1s] at hc1
  ·rw [tog,tog,if_neg hc1]
   repeat (first | (with_reducible first | refine pt_i ?_ | refine gF (k:=?_) | refine Qay (by omega) (by omega) ?_ | refine g0 (k:=?_) | refine g1 (k:=?_) | refine g2 (k:=?_) | refine g3 (k:=?_) | refine g4 (k:=?_) | refine g5 (k:=?_) | refine g6 (k:=?_) | refine g7 (k:=?_) | refine g8 (k:=?_) | refine s0 (k:=fun _ hst=>?_) | refine s1 (k:=fun _ hst=>?_) | refine s2 (k:=fun _ hst=>?_) | refine s3 (k:=fun _ hst=>?_) | refine s4 (k:=fun _ hst=>?_) | refine s5 (k:=fun _ hst=>?_) | refine s6 (k:=fun _ hst=>?_) | refine s7 (k:=fun _ hst=>?_) | refine s8 (k:=fun _ hst=>?_)) | simp only [projS,Qab])
   refine ⟨_,by decide,by decide,rfl,?_⟩
   refine Qac (fun hc2=>?_) (fun hc2=>?_)<;>simp only [b1s] at hc2
   ·rw [if_neg hc2]
    repeat (first | (with_reducible first | refine pt_i ?_ | refine gF (k:=?_) | refine Qay (by omega) (by omega) ?_ | refine g0 (k:=?_) | refine g1 (k:=?_) | refine g2 (k:=?_) | refine g3 (k:=?_) | refine g4 (k:=?_) | refine g5 (k:=?_) | refine g6 (k:=?_) | refine g7 (k:=?_) | refine g8 (k:=?_) | refine s0 (k:=fun _ hst=>?_) | refine s1 (k:=fun _ hst=>?_) | refine s2 (k:=fun _ hst=>?_) | refine s3 (k:=fun _ hst=>?_) | refine s4 (k:=fun _ hst=>?_) | refine s5 (k:=fun _ hst=>?_) | refine s6 (k:=fun _ hst=>?_) | refine s7 (k:=fun _ hst=>?_) | refine s8 (k:=fun _ hst=>?_)) | simp only [projS,Qab])
    (refine ⟨by first | rfl | trivial,?_⟩;(exact stf))
   ·rw [if_pos hc2]
    (refine ⟨by first | rfl | trivial,?_⟩;(exact stf))
  ·rw [tog,tog,if_pos hc1]
   refine ⟨_,by decide,by decide,rfl,?_⟩
   refine Qac (fun hc2=>?_) (fun hc2=>?_)<;>simp only [b1s] at hc2
   ·rw [if_neg hc2]
    repeat (first | (with_reducible first | refine pt_i ?_ | refine gF (k:=?_) | refine Qay (by omega) (by omega) ?_ | refine g0 (k:=?_) | refine g1 (k:=?_) | refine g2 (k:=?_) | refine g3 (k:=?_) | refine g4 (k:=?_) | refine g5 (k:=?_) | refine g6 (k:=?_) | refine g7 (k:=?_) | refine g8 (k:=?_) | refine s0 (k:=fun _ hst=>?_) | refine s1 (k:=fun _ hst=>?_) | refine s2 (k:=fun _ hst=>?_) | refine s3 (k:=fun _ hst=>?_) | refine s4 (k:=fun _ hst=>?_) | refine s5 (k:=fun _ hst=>?_) | refine s6 (k:=fun _ hst=>?_) | refine s7 (k:=fun _ hst=>?_) | refine s8 (k:=fun _ hst=>?_)) | simp only [projS,Qab])
    (refine ⟨by first | rfl | trivial,?_⟩;(exact stf))
   ·rw [if_pos hc2]
    (refine ⟨by first | rfl | trivial,?_⟩;(exact stf))
def Wf (n:Nat) (s:S):Prop:=∀i,i<n→(-1≤s.up i∧s.up i<n)∧(-1≤s.left i∧s.left i<n)∧(-1≤s.right i∧s.right i<n)
def addC (s:S) (x:Nat) (c:Int):S:=
 if c=-1 then s else
  let s1:=s.Qcp x (IntKind.i32.wrap (s.size x+s.size c.toNat))
  let s2:=s1.Qgi x (IntKind.i64.wrap (s.sum x+s.sum c.toNat))
  let s3:=s2.Qbt x (if s.least c.toNat<s.least x then s.least c.toNat else s.least x)
  s3.Qcq x (if s.most c.toNat>s.most x then s.most c.toNat else s.most x)
def ownS (s:S) (x:Nat):S:=(((s.Qcp x 1).Qgi x (s.value x)).Qbt x (s.value x)).Qcq x (s.value x)
def pullS (s:S) (x:Int):S:=addC (addC (ownS s x.toNat) x.toNat (s.left x.toNat)) x.toNat (s.right x.toNat)
theorem Qj4 {w:World} {F L n:Nat} {s:S} {x:Int} (h:IsF w.heap F L n s) (h0:0≤x) (h1:x<n) (hw:Wf n s) :
  Calls Pg Qnd #[.pointer (some ⟨F,0,none⟩),.int .i32 x] w fun e w'=>e=.returned (.tuple #[])∧St w w' F L n (pullS s x):=by
 have hst:=St.start h
 obtain ⟨_,⟨hl0,hl1⟩,hr0,hr1⟩:=hw x.toNat (by omega)
 refine (Qsp _ _ _ (fun v w'=>v=.tuple #[]∧St w w' F L n (pullS s x)) ?_).mono rti
 unfold Ql5 nr
 repeat (first | (with_reducible first | refine pt_i ?_ | refine gF (k:=?_) | refine Qay (by omega) (by omega) ?_ | refine g0 (k:=?_) | refine g1 (k:=?_) | refine g2 (k:=?_) | refine g3 (k:=?_) | refine g4 (k:=?_) | refine g5 (k:=?_) | refine g6 (k:=?_) | refine g7 (k:=?_) | refine g8 (k:=?_) | refine s0 (k:=fun _ hst=>?_) | refine s1 (k:=fun _ hst=>?_) | refine s2 (k:=fun _ hst=>?_) | refine s3 (k:=fun _ hst=>?_) | refine s4 (k:=fun _ hst=>?_) | refine s5 (k:=fun _ hst=>?_) | refine s6 (k:=fun _ hst=>?_) | refine s7 (k:=fun _ hst=>?_) | refine s8 (k:=fun _ hst=>?_)) | simp only [projS,Qab])
 refine ⟨_,by decide,by decide,rfl,?_⟩
 refine Qac (fun hc1=>?_) (fun hc1=>?_)<;>simp only [b1s] at hc1
 ·refine ⟨_,by decide,by decide,rfl,?_⟩
  refine Qac (fun hc2=>?_) (fun hc2=>?_)<;>simp only [b1s] at hc2
  ·have e:pullS s x=ownS s x.toNat:=by rw [pullS,addC,addC,if_pos hc1,if_pos hc2]
   rw [e];(refine ⟨by first | rfl | trivial,?_⟩;(exact stf))
  ·have e:pullS s x=addC (ownS s x.toNat) x.toNat (s.right x.toNat):=by rw [pullS,addC,addC,if_pos hc1,if_neg hc2,addC,if_neg hc2]
   rw [e,addC,if_neg hc2]
   repeat (first | (with_reducible first | refine pt_i ?_ | refine gF (k:=?_) | refine Qay (by omega) (by omega) ?_ | refine g0 (k:=?_) | refine g1 (k:=?_) | refine g2 (k:=?_) | refine g3 (k:=?_) | refine g4 (k:=?_) | refine g5 (k:=?_) | refine g6 (k:=?_) | refine g7 (k:=?_) | refine g8 (k:=?_) | refine s0 (k:=fun _ hst=>?_) | refine s1 (k:=fun _ hst=>?_) | refine s2 (k:=fun _ hst=>?_) | refine s3 (k:=fun _ hst=>?_) | refine s4 (k:=fun _ hst=>?_) | refine s5 (k:=fun _ hst=>?_) | refine s6 (k:=fun _ hst=>?_) | refine s7 (k:=fun _ hst=>?_) | refine s8 (k:=fun _ hst=>?_)) | simp only [projS,Qab])
   (refine ⟨by first | rfl | trivial,?_⟩;simp only [ownS,projS,Qab] at hst ⊢;(exact stf))
 ·repeat (first | (with_reducible first | refine pt_i ?_ | refine gF (k:=?_) | refine Qay (by omega) (by omega) ?_ | refine g0 (k:=?_) | refine g1 (k:=?_) | refine g2 (k:=?_) | refine g3 (k:=?_) | refine g4 (k:=?_) | refine g5 (k:=?_) | refine g6 (k:=?_) | refine g7 (k:=?_) | refine g8 (k:=?_) | refine s0 (k:=fun _ hst=>?_) | refine s1 (k:=fun _ hst=>?_) | refine s2 (k:=fun _ hst=>?_) | refine s3 (k:=fun _ hst=>?_) | refine s4 (k:=fun _ hst=>?_) | refine s5 (k:=fun _ hst=>?_) | refine s6 (k:=fun _ hst=>?_) | refine s7 (k:=fun _ hst=>?_) | refine s8 (k:=fun _ hst=>?_)) | simp only [projS,Qab])
  refine ⟨_,by decide,by decide,rfl,?_⟩
  refine Qac (fun hc2=>?_) (fun hc2=>?_)<;>simp only [b1s] at hc2
  ·rw [pullS,addC.eq_1 _ _ (s.right x.toNat),if_pos hc2,addC,if_neg hc1]
   (refine ⟨by first | rfl | trivial,?_⟩;simp only [ownS,projS,Qab] at hst ⊢;(exact stf))
  ·rw [pullS,addC.eq_1 _ _ (s.right x.toNat),if_neg hc2,addC,if_neg hc1]
   repeat (first | (with_reducible first | refine pt_i ?_ | refine gF (k:=?_) | refine Qay (by omega) (by omega) ?_ | refine g0 (k:=?_) | refine g1 (k:=?_) | refine g2 (k:=?_) | refine g3 (k:=?_) | refine g4 (k:=?_) | refine g5 (k:=?_) | refine g6 (k:=?_) | refine g7 (k:=?_) | refine g8 (k:=?_) | refine s0 (k:=fun _ hst=>?_) | refine s1 (k:=fun _ hst=>?_) | refine s2 (k:=fun _ hst=>?_) | refine s3 (k:=fun _ hst=>?_) | refine s4 (k:=fun _ hst=>?_) | refine s5 (k:=fun _ hst=>?_) | refine s6 (k:=fun _ hst=>?_) | refine s7 (k:=fun _ hst=>?_) | refine s8 (k:=fun _ hst=>?_)) | simp only [projS,Qab])
   (refine ⟨by first | rfl | trivial,?_⟩;simp only [ownS,projS,Qab] at hst ⊢;(exact stf))
def hangS (s:S) (c x:Int) (left:Bool):S:=
 let s1:=if left then s.Qa2 x.toNat c else s.Qa0 x.toNat c
 if c=-1 then s1 else s1.w_up c.toNat x
theorem Qxd {w:World} {F L n:Nat} {s:S} {c x:Int} {left:Bool} (h:IsF w.heap F L n s) (h0:0≤x) (h1:x<n) (hc0:-1≤c) (hc1:c<n) :
  Calls Pg Qne #[.pointer (some ⟨F,0,none⟩),.int .i32 c,.int .i32 x,.bool left] w fun e w'=>e=.returned (.tuple #[])∧St w w' F L n (hangS s c x left):=by
 have hst:=St.start h
 refine (Qsr _ _ _ _ _ (fun v w'=>v=.tuple #[]∧St w w' F L n (hangS s c x left)) ?_).mono rti
 unfold Ql7 nr
 cases left
 all_goals
  simp only [cond_true,cond_false,hangS]
  repeat (first | (with_reducible first | refine pt_i ?_ | refine gF (k:=?_) | refine Qay (by omega) (by omega) ?_ | refine g0 (k:=?_) | refine g1 (k:=?_) | refine g2 (k:=?_) | refine g3 (k:=?_) | refine g4 (k:=?_) | refine g5 (k:=?_) | refine g6 (k:=?_) | refine g7 (k:=?_) | refine g8 (k:=?_) | refine s0 (k:=fun _ hst=>?_) | refine s1 (k:=fun _ hst=>?_) | refine s2 (k:=fun _ hst=>?_) | refine s3 (k:=fun _ hst=>?_) | refine s4 (k:=fun _ hst=>?_) | refine s5 (k:=fun _ hst=>?_) | refine s6 (k:=fun _ hst=>?_) | refine s7 (k:=fun _ hst=>?_) | refine s8 (k:=fun _ hst=>?_)) | simp only [projS,Qab])
  refine Qac (fun hc1=>?_) (fun hc1=>?_)<;>simp only [b1s] at hc1
  ·rw [if_neg hc1]
   repeat (first | (with_reducible first | refine pt_i ?_ | refine gF (k:=?_) | refine Qay (by omega) (by omega) ?_ | refine g0 (k:=?_) | refine g1 (k:=?_) | refine g2 (k:=?_) | refine g3 (k:=?_) | refine g4 (k:=?_) | refine g5 (k:=?_) | refine g6 (k:=?_) | refine g7 (k:=?_) | refine g8 (k:=?_) | refine s0 (k:=fun _ hst=>?_) | refine s1 (k:=fun _ hst=>?_) | refine s2 (k:=fun _ hst=>?_) | refine s3 (k:=fun _ hst=>?_) | refine s4 (k:=fun _ hst=>?_) | refine s5 (k:=fun _ hst=>?_) | refine s6 (k:=fun _ hst=>?_) | refine s7 (k:=fun _ hst=>?_) | refine s8 (k:=fun _ hst=>?_)) | simp only [projS,Qab])
   (refine ⟨by first | rfl | trivial,?_⟩;(exact stf))
  ·rw [if_pos hc1]
   (refine ⟨by first | rfl | trivial,?_⟩;(exact stf))
theorem Qfi {n:Nat} {s:S} {c x:Int} {left:Bool} (hw:Wf n s) (h0:0≤x) (h1:x<n) (hc0:-1≤c) (hc1:c<n):Wf n (hangS s c x left):=by
 intro i hi
 have h:=hw i hi
 unfold hangS
 cases left<;>simp only [if_true,Bool.false_eq_true,if_false]<;>split<;>simp [upd]<;>(repeat' split)<;>omega
theorem Qzn {n:Nat} {s:S} {c:Int} {x:Nat} (hw:Wf n s) (hc0:-1≤c) (hc1:c<n):Wf n (s.w_up x c):=by
 intro i hi
 have h:=hw i hi
 simp [upd];split<;>omega
theorem Qk0 (s:S) (x:Int):(pullS s x).up=s.up∧(pullS s x).left=s.left∧(pullS s x).right=s.right∧(pullS s x).turned=s.turned∧(pullS s x).value=s.value:=by
 unfold pullS addC ownS
 (repeat' split)<;>simp
theorem Qp2 {n:Nat} {s:S} {x:Int} (hw:Wf n s):Wf n (pullS s x):=by
 obtain ⟨a,b,c,_⟩:=Qk0 s x
 intro i hi
 rw [a,b,c];exact hw i hi
def rotS (s:S) (x:Int):S:=
 let p:=s.up x.toNat
 let g:=s.up p.toNat
 let left:=s.left p.toNat==x
 let s1:=if left then hangS s (s.right x.toNat) p true else hangS s (s.left x.toNat) p false
 let above:=g != -1&&s1.left g.toNat==p
 let s2:=hangS s1 p x (!left)
 let s3:=s2.w_up x.toNat g
 let s4:=if g=-1 then s3 else hangS s3 x g above
 pullS (pullS s4 p) x
theorem Qql {w:World} {F L n:Nat} {s:S} {x:Int} (h:IsF w.heap F L n s) (h0:0≤x) (h1:x<n) (hw:Wf n s) (hp:s.up x.toNat≠-1) :
  Calls Pg Qjv #[.pointer (some ⟨F,0,none⟩),.int .i32 x] w fun e w'=>e=.returned (.tuple #[])∧St w w' F L n (rotS s x):=by
 have hst:=St.start h
 obtain ⟨⟨hp0,hp1⟩,⟨hl0,hl1⟩,hr0,hr1⟩:=hw x.toNat (by omega)
 obtain ⟨⟨hg0,hg1⟩,⟨hpl0,hpl1⟩,_⟩:=hw (s.up x.toNat).toNat (by omega)
 have hpp:0≤s.up x.toNat:=by omega
 refine (Qqd _ _ _ (fun v w'=>v=.tuple #[]∧St w w' F L n (rotS s x)) ?_).mono rti
 unfold Qjh nr
 repeat (first | (with_reducible first | refine pt_i ?_ | refine gF (k:=?_) | refine Qay (by omega) (by omega) ?_ | refine g0 (k:=?_) | refine g1 (k:=?_) | refine g2 (k:=?_) | refine g3 (k:=?_) | refine g4 (k:=?_) | refine g5 (k:=?_) | refine g6 (k:=?_) | refine g7 (k:=?_) | refine g8 (k:=?_) | refine s0 (k:=fun _ hst=>?_) | refine s1 (k:=fun _ hst=>?_) | refine s2 (k:=fun _ hst=>?_) | refine s3 (k:=fun _ hst=>?_) | refine s4 (k:=fun _ hst=>?_) | refine s5 (k:=fun _ hst=>?_) | refine s6 (k:=fun _ hst=>?_) | refine s7 (k:=fun _ hst=>?_) | refine s8 (k:=fun _ hst=>?_)) | simp only [projS,Qab])
 refine Qac (fun hL=>?_) (fun hL=>?_)
 ·repeat (first | (with_reducible first | refine pt_i ?_ | refine gF (k:=?_) | refine Qay (by omega) (by omega) ?_ | refine g0 (k:=?_) | refine g1 (k:=?_) | refine g2 (k:=?_) | refine g3 (k:=?_) | refine g4 (k:=?_) | refine g5 (k:=?_) | refine g6 (k:=?_) | refine g7 (k:=?_) | refine g8 (k:=?_) | refine s0 (k:=fun _ hst=>?_) | refine s1 (k:=fun _ hst=>?_) | refine s2 (k:=fun _ hst=>?_) | refine s3 (k:=fun _ hst=>?_) | refine s4 (k:=fun _ hst=>?_) | refine s5 (k:=fun _ hst=>?_) | refine s6 (k:=fun _ hst=>?_) | refine s7 (k:=fun _ hst=>?_) | refine s8 (k:=fun _ hst=>?_)) | simp only [projS,Qab])
  refine (Qxd hst.i hpp hp1 hr0 hr1).mono ?_
  rintro e w' ⟨rfl,hst'⟩;refine ⟨rfl,?_⟩;have hst:=St.trans stf hst';clear hst'
  have hw1:=Qfi (left:=true) hw hpp hp1 hr0 hr1
  refine Qac (fun hg=>?_) (fun hg=>?_)<;>simp only [b1s] at hg
  ·repeat (first | (with_reducible first | refine pt_i ?_ | refine gF (k:=?_) | refine Qay (by omega) (by omega) ?_ | refine g0 (k:=?_) | refine g1 (k:=?_) | refine g2 (k:=?_) | refine g3 (k:=?_) | refine g4 (k:=?_) | refine g5 (k:=?_) | refine g6 (k:=?_) | refine g7 (k:=?_) | refine g8 (k:=?_) | refine s0 (k:=fun _ hst=>?_) | refine s1 (k:=fun _ hst=>?_) | refine s2 (k:=fun _ hst=>?_) | refine s3 (k:=fun _ hst=>?_) | refine s4 (k:=fun _ hst=>?_) | refine s5 (k:=fun _ hst=>?_) | refine s6 (k:=fun _ hst=>?_) | refine s7 (k:=fun _ hst=>?_) | refine s8 (k:=fun _ hst=>?_)) | simp only [projS,Qab])
   refine (Qxd hst.i h0 h1 hp0 hp1).mono ?_
   rintro e w' ⟨rfl,hst'⟩;refine ⟨rfl,?_⟩;have hst:=St.trans stf hst';clear hst'
   have hw2:=Qfi (left:=!(s.left (s.up x.toNat).toNat==x)) hw1 h0 h1 hp0 hp1
   repeat (first | (with_reducible first | refine pt_i ?_ | refine gF (k:=?_) | refine Qay (by omega) (by omega) ?_ | refine g0 (k:=?_) | refine g1 (k:=?_) | refine g2 (k:=?_) | refine g3 (k:=?_) | refine g4 (k:=?_) | refine g5 (k:=?_) | refine g6 (k:=?_) | refine g7 (k:=?_) | refine g8 (k:=?_) | refine s0 (k:=fun _ hst=>?_) | refine s1 (k:=fun _ hst=>?_) | refine s2 (k:=fun _ hst=>?_) | refine s3 (k:=fun _ hst=>?_) | refine s4 (k:=fun _ hst=>?_) | refine s5 (k:=fun _ hst=>?_) | refine s6 (k:=fun _ hst=>?_) | refine s7 (k:=fun _ hst=>?_) | refine s8 (k:=fun _ hst=>?_)) | simp only [projS,Qab])
   have hw3:=Qzn (x:=x.toNat) hw2 hg0 hg1
   refine Qac (fun hg'=>?_) (fun hg'=>?_)<;>simp only [b1s] at hg'
   ·refine (Qxd hst.i (by omega) hg1 (by omega) h1).mono ?_
    rintro e w' ⟨rfl,hst'⟩;refine ⟨rfl,?_⟩;have hst:=St.trans stf hst';clear hst'
    have hw4:=Qfi (left:=(hangS s (s.right x.toNat) (s.up x.toNat) true).left (s.up (s.up x.toNat).toNat).toNat==s.up x.toNat) hw3 (by omega:0≤s.up (s.up x.toNat).toNat) hg1 (by omega:-1≤x) h1
    refine (Qj4 hst.i hpp hp1 hw4).mono ?_
    rintro e w' ⟨rfl,hst'⟩;refine ⟨rfl,?_⟩;have hst:=St.trans stf hst';clear hst'
    refine (Qj4 hst.i h0 h1 (Qp2 hw4)).mono ?_
    rintro e w' ⟨rfl,hst'⟩;refine ⟨rfl,?_⟩;have hst:=St.trans stf hst';clear hst'
    have e:rotS s x=pullS (pullS (hangS ((hangS (hangS s (s.right x.toNat) (s.up x.toNat) true) (s.up x.toNat) x (!(s.left (s.up x.toNat).toNat==x))).w_up x.toNat (s.up (s.up x.toNat).toNat)) x (s.up (s.up x.toNat).toNat) ((hangS s (s.right x.toNat) (s.up x.toNat) true).left (s.up (s.up x.toNat).toNat).toNat==s.up x.toNat)) (s.up x.toNat)) x:=by
     have hgb:(s.up (s.up x.toNat).toNat != -1)=true:=by simpa using hg
     simp only [rotS,hL,if_true,if_neg hg,hgb,Bool.true_and]
    rw [e];(refine ⟨by first | rfl | trivial,?_⟩;(exact stf))
   ·exact absurd hg' hg
  ·refine (Qxd hst.i h0 h1 hp0 hp1).mono ?_
   rintro e w' ⟨rfl,hst'⟩;refine ⟨rfl,?_⟩;have hst:=St.trans stf hst';clear hst'
   have hw2:=Qfi (left:=!(s.left (s.up x.toNat).toNat==x)) hw1 h0 h1 hp0 hp1
   repeat (first | (with_reducible first | refine pt_i ?_ | refine gF (k:=?_) | refine Qay (by omega) (by omega) ?_ | refine g0 (k:=?_) | refine g1 (k:=?_) | refine g2 (k:=?_) | refine g3 (k:=?_) | refine g4 (k:=?_) | refine g5 (k:=?_) | refine g6 (k:=?_) | refine g7 (k:=?_) | refine g8 (k:=?_) | refine s0 (k:=fun _ hst=>?_) | refine s1 (k:=fun _ hst=>?_) | refine s2 (k:=fun _ hst=>?_) | refine s3 (k:=fun _ hst=>?_) | refine s4 (k:=fun _ hst=>?_) | refine s5 (k:=fun _ hst=>?_) | refine s6 (k:=fun _ hst=>?_) | refine s7 (k:=fun _ hst=>?_) | refine s8 (k:=fun _ hst=>?_)) | simp only [projS,Qab])
   have hw3:=Qzn (x:=x.toNat) hw2 hg0 hg1
   refine Qac (fun hg'=>?_) (fun hg'=>?_)<;>simp only [b1s] at hg'
   ·exact absurd hg hg'
   ·refine (Qj4 hst.i hpp hp1 hw3).mono ?_
    rintro e w' ⟨rfl,hst'⟩;refine ⟨rfl,?_⟩;have hst:=St.trans stf hst';clear hst'
    refine (Qj4 hst.i h0 h1 (Qp2 hw3)).mono ?_
    rintro e w' ⟨rfl,hst'⟩;refine ⟨rfl,?_⟩;have hst:=St.trans stf hst';clear hst'
    have e:rotS s x=pullS (pullS ((hangS (hangS s (s.right x.toNat) (s.up x.toNat) true) (s.up x.toNat) x (!(s.left (s.up x.toNat).toNat==x))).w_up x.toNat (s.up (s.up x.toNat).toNat)) (s.up x.toNat)) x:=by
     simp only [rotS,hL,if_true,if_pos hg]
    rw [e];(refine ⟨by first | rfl | trivial,?_⟩;(exact stf))
 ·repeat (first | (with_reducible first | refine pt_i ?_ | refine gF (k:=?_) | refine Qay (by omega) (by omega) ?_ | refine g0 (k:=?_) | refine g1 (k:=?_) | refine g2 (k:=?_) | refine g3 (k:=?_) | refine g4 (k:=?_) | refine g5 (k:=?_) | refine g6 (k:=?_) | refine g7 (k:=?_) | refine g8 (k:=?_) | refine s0 (k:=fun _ hst=>?_) | refine s1 (k:=fun _ hst=>?_) | refine s2 (k:=fun _ hst=>?_) | refine s3 (k:=fun _ hst=>?_) | refine s4 (k:=fun _ hst=>?_) | refine s5 (k:=fun _ hst=>?_) | refine s6 (k:=fun _ hst=>?_) | refine s7 (k:=fun _ hst=>?_) | refine s8 (k:=fun _ hst=>?_)) | simp only [projS,Qab])
  refine (Qxd hst.i hpp hp1 hl0 hl1).mono ?_
  rintro e w' ⟨rfl,hst'⟩;refine ⟨rfl,?_⟩;have hst:=St.trans stf hst';clear hst'
  have hw1:=Qfi (left:=false) hw hpp hp1 hl0 hl1
  refine Qac (fun hg=>?_) (fun hg=>?_)<;>simp only [b1s] at hg
  ·repeat (first | (with_reducible first | refine pt_i ?_ | refine gF (k:=?_) | refine Qay (by omega) (by omega) ?_ | refine g0 (k:=?_) | refine g1 (k:=?_) | refine g2 (k:=?_) | refine g3 (k:=?_) | refine g4 (k:=?_) | refine g5 (k:=?_) | refine g6 (k:=?_) | refine g7 (k:=?_) | refine g8 (k:=?_) | refine s0 (k:=fun _ hst=>?_) | refine s1 (k:=fun _ hst=>?_) | refine s2 (k:=fun _ hst=>?_) | refine s3 (k:=fun _ hst=>?_) | refine s4 (k:=fun _ hst=>?_) | refine s5 (k:=fun _ hst=>?_) | refine s6 (k:=fun _ hst=>?_) | refine s7 (k:=fun _ hst=>?_) | refine s8 (k:=fun _ hst=>?_)) | simp only [projS,Qab])
   refine (Qxd hst.i h0 h1 hp0 hp1).mono ?_
   rintro e w' ⟨rfl,hst'⟩;refine ⟨rfl,?_⟩;have hst:=St.trans stf hst';clear hst'
   have hw2:=Qfi (left:=!(s.left (s.up x.toNat).toNat==x)) hw1 h0 h1 hp0 hp1
   repeat (first | (with_reducible first | refine pt_i ?_ | refine gF (k:=?_) | refine Qay (by omega) (by omega) ?_ | refine g0 (k:=?_) | refine g1 (k:=?_) | refine g2 (k:=?_) | refine g3 (k:=?_) | refine g4 (k:=?_) | refine g5 (k:=?_) | refine g6 (k:=?_) | refine g7 (k:=?_) | refine g8 (k:=?_) | refine s0 (k:=fun _ hst=>?_) | refine s1 (k:=fun _ hst=>?_) | refine s2 (k:=fun _ hst=>?_) | refine s3 (k:=fun _ hst=>?_) | refine s4 (k:=fun _ hst=>?_) | refine s5 (k:=fun _ hst=>?_) | refine s6 (k:=fun _ hst=>?_) | refine s7 (k:=fun _ hst=>?_) | refine s8 (k:=fun _ hst=>?_)) | simp only [projS,Qab])
   have hw3:=Qzn (x:=x.toNat) hw2 hg0 hg1
   refine Qac (fun hg'=>?_) (fun hg'=>?_)<;>simp only [b1s] at hg'
   ·refine (Qxd hst.i (by omega) hg1 (by omega) h1).mono ?_
    rintro e w' ⟨rfl,hst'⟩;refine ⟨rfl,?_⟩;have hst:=St.trans stf hst';clear hst'
    have hw4:=Qfi (left:=(hangS s (s.left x.toNat) (s.up x.toNat) false).left (s.up (s.up x.toNat).toNat).toNat==s.up x.toNat) hw3 (by omega:0≤s.up (s.up x.toNat).toNat) hg1 (by omega:-1≤x) h1
    refine (Qj4 hst.i hpp hp1 hw4).mono ?_
    rintro e w' ⟨rfl,hst'⟩;refine ⟨rfl,?_⟩;have hst:=St.trans stf hst';clear hst'
    refine (Qj4 hst.i h0 h1 (Qp2 hw4)).mono ?_
    rintro e w' ⟨rfl,hst'⟩;refine ⟨rfl,?_⟩;have hst:=St.trans stf hst';clear hst'
    have e:rotS s x=pullS (pullS (hangS ((hangS (hangS s (s.left x.toNat) (s.up x.toNat) false) (s.up x.toNat) x (!(s.left (s.up x.toNat).toNat==x))).w_up x.toNat (s.up (s.up x.toNat).toNat)) x (s.up (s.up x.toNat).toNat) ((hangS s (s.left x.toNat) (s.up x.toNat) false).left (s.up (s.up x.toNat).toNat).toNat==s.up x.toNat)) (s.up x.toNat)) x:=by
     have hgb:(s.up (s.up x.toNat).toNat != -1)=true:=by simpa using hg
     simp only [rotS,hL,Bool.false_eq_true,if_false,if_neg hg,hgb,Bool.true_and]
    rw [e];(refine ⟨by first | rfl | trivial,?_⟩;(exact stf))
   ·exact absurd hg' hg
  ·refine (Qxd hst.i h0 h1 hp0 hp1).mono ?_
   rintro e w' ⟨rfl,hst'⟩;refine ⟨rfl,?_⟩;have hst:=St.trans stf hst';clear hst'
   have hw2:=Qfi (left:=!(s.left (s.up x.toNat).toNat==x)) hw1 h0 h1 hp0 hp1
   repeat (first | (with_reducible first | refine pt_i ?_ | refine gF (k:=?_) | refine Qay (by omega) (by omega) ?_ | refine g0 (k:=?_) | refine g1 (k:=?_) | refine g2 (k:=?_) | refine g3 (k:=?_) | refine g4 (k:=?_) | refine g5 (k:=?_) | refine g6 (k:=?_) | refine g7 (k:=?_) | refine g8 (k:=?_) | refine s0 (k:=fun _ hst=>?_) | refine s1 (k:=fun _ hst=>?_) | refine s2 (k:=fun _ hst=>?_) | refine s3 (k:=fun _ hst=>?_) | refine s4 (k:=fun _ hst=>?_) | refine s5 (k:=fun _ hst=>?_) | refine s6 (k:=fun _ hst=>?_) | refine s7 (k:=fun _ hst=>?_) | refine s8 (k:=fun _ hst=>?_)) | simp only [projS,Qab])
   have hw3:=Qzn (x:=x.toNat) hw2 hg0 hg1
   refine Qac (fun hg'=>?_) (fun hg'=>?_)<;>simp only [b1s] at hg'
   ·exact absurd hg hg'
   ·refine (Qj4 hst.i hpp hp1 hw3).mono ?_
    rintro e w' ⟨rfl,hst'⟩;refine ⟨rfl,?_⟩;have hst:=St.trans stf hst';clear hst'
    refine (Qj4 hst.i h0 h1 (Qp2 hw3)).mono ?_
    rintro e w' ⟨rfl,hst'⟩;refine ⟨rfl,?_⟩;have hst:=St.trans stf hst';clear hst'
    have e:rotS s x=pullS (pullS ((hangS (hangS s (s.left x.toNat) (s.up x.toNat) false) (s.up x.toNat) x (!(s.left (s.up x.toNat).toNat==x))).w_up x.toNat (s.up (s.up x.toNat).toNat)) (s.up x.toNat)) x:=by
     simp only [rotS,hL,Bool.false_eq_true,if_false,if_pos hg]
    rw [e];(refine ⟨by first | rfl | trivial,?_⟩;(exact stf))
end Seq
end Go.Proofs.YtfeekmmfdkfgmaaGreatDoor
