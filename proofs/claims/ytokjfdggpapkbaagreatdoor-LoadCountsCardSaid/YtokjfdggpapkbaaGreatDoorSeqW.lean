/-
The sequences of layer 4: what each inner function makes of the records.
Conditions: the record's own (places within the row).
-/
import Derived.Test.YtokjfdggpapkbaaGreatDoorSeqR
import Derived.Test.YtokjfdggpapkbaaGreatDoorHsh
set_option linter.unusedVariables false
set_option linter.unusedSimpArgs false
namespace Go.Proofs.YtokjfdggpapkbaaGreatDoor
open Go
namespace Seq
def tog (s:S) (c:Int):S:=if c=-1 then s else s.Qa8 c.toNat (!(s.turned c.toNat))
def swapS (s:S) (x:Nat):S:=((s.Qa8 x false).Qa2 x (s.right x)).Qaz x (s.left x)
def pushS (s:S) (x:Int):S:=
 if s.turned x.toNat then tog (tog (swapS s x.toNat) (s.right x.toNat)) (s.left x.toNat) else s
theorem Quq {w:World} {F L n:Nat} {s:S} {x:Int} (h:IsF w.heap F L n s) (h0:0≤x) (h1:x<n)
  (hl0:-1≤s.left x.toNat) (hl1:s.left x.toNat<n) (hr0:-1≤s.right x.toNat) (hr1:s.right x.toNat<n) :
  Calls Pg Ql2 #[.pointer (some ⟨F,0,none⟩),.int .i32 x] w fun e w'=>e=.returned (.tuple #[])∧St w w' F L n (pushS s x):=by
 have hst:=St.start h
 refine (Qqp _ _ _ (fun v w'=>v=.tuple #[]∧St w w' F L n (pushS s x)) ?_).mono (by rintro e w' ⟨v,rfl,rfl,k⟩;exact ⟨rfl,k⟩)
 unfold Qk6 nr
 repeat (first | with_reducible refine pt_i ?_ | with_reducible refine gF (k:=?_) | with_reducible refine Qay (by omega) (by omega) ?_ | with_reducible refine g0 (k:=?_) | with_reducible refine g1 (k:=?_) | with_reducible refine g2 (k:=?_) | with_reducible refine g3 (k:=?_) | with_reducible refine g4 (k:=?_) | with_reducible refine g5 (k:=?_) | with_reducible refine g6 (k:=?_) | with_reducible refine g7 (k:=?_) | with_reducible refine g8 (k:=?_) | with_reducible refine s0 (k:=fun _ hst=>?_) | with_reducible refine s1 (k:=fun _ hst=>?_) | with_reducible refine s2 (k:=fun _ hst=>?_) | with_reducible refine s3 (k:=fun _ hst=>?_) | with_reducible refine s4 (k:=fun _ hst=>?_) | with_reducible refine s5 (k:=fun _ hst=>?_) | with_reducible refine s6 (k:=fun _ hst=>?_) | with_reducible refine s7 (k:=fun _ hst=>?_) | with_reducible refine s8 (k:=fun _ hst=>?_) | simp only [projS,Qab])
 refine Qad (fun hc=>?_) (fun hc=>?_)<;>simp only [b1s] at hc
 ·have:pushS s x=s:=by simp [pushS,hc]
  rw [this];(refine ⟨by first | rfl | trivial,?_⟩;(first | assumption | exact St.drew (by assumption) | exact St.drew (St.drew (by assumption)) | exact St.drew (St.drew (St.drew (by assumption)))))
 ·repeat (first | with_reducible refine pt_i ?_ | with_reducible refine gF (k:=?_) | with_reducible refine Qay (by omega) (by omega) ?_ | with_reducible refine g0 (k:=?_) | with_reducible refine g1 (k:=?_) | with_reducible refine g2 (k:=?_) | with_reducible refine g3 (k:=?_) | with_reducible refine g4 (k:=?_) | with_reducible refine g5 (k:=?_) | with_reducible refine g6 (k:=?_) | with_reducible refine g7 (k:=?_) | with_reducible refine g8 (k:=?_) | with_reducible refine s0 (k:=fun _ hst=>?_) | with_reducible refine s1 (k:=fun _ hst=>?_) | with_reducible refine s2 (k:=fun _ hst=>?_) | with_reducible refine s3 (k:=fun _ hst=>?_) | with_reducible refine s4 (k:=fun _ hst=>?_) | with_reducible refine s5 (k:=fun _ hst=>?_) | with_reducible refine s6 (k:=fun _ hst=>?_) | with_reducible refine s7 (k:=fun _ hst=>?_) | with_reducible refine s8 (k:=fun _ hst=>?_) | simp only [projS,Qab])
  have hs:pushS s x=tog (tog (swapS s x.toNat) (s.right x.toNat)) (s.left x.toNat):=by simp [pushS,hc]
  rw [hs]
  refine ⟨_,by decide,by decide,rfl,?_⟩
  refine Qad (fun hc1=>?_) (fun hc1=>?_)<;>simp only [b1s] at hc1
  ·rw [tog,tog,if_neg hc1]
   repeat (first | with_reducible refine pt_i ?_ | with_reducible refine gF (k:=?_) | with_reducible refine Qay (by omega) (by omega) ?_ | with_reducible refine g0 (k:=?_) | with_reducible refine g1 (k:=?_) | with_reducible refine g2 (k:=?_) | with_reducible refine g3 (k:=?_) | with_reducible refine g4 (k:=?_) | with_reducible refine g5 (k:=?_) | with_reducible refine g6 (k:=?_) | with_reducible refine g7 (k:=?_) | with_reducible refine g8 (k:=?_) | with_reducible refine s0 (k:=fun _ hst=>?_) | with_reducible refine s1 (k:=fun _ hst=>?_) | with_reducible refine s2 (k:=fun _ hst=>?_) | with_reducible refine s3 (k:=fun _ hst=>?_) | with_reducible refine s4 (k:=fun _ hst=>?_) | with_reducible refine s5 (k:=fun _ hst=>?_) | with_reducible refine s6 (k:=fun _ hst=>?_) | with_reducible refine s7 (k:=fun _ hst=>?_) | with_reducible refine s8 (k:=fun _ hst=>?_) | simp only [projS,Qab])
   refine ⟨_,by decide,by decide,rfl,?_⟩
   refine Qad (fun hc2=>?_) (fun hc2=>?_)<;>simp only [b1s] at hc2
   ·rw [if_neg hc2]
    repeat (first | with_reducible refine pt_i ?_ | with_reducible refine gF (k:=?_) | with_reducible refine Qay (by omega) (by omega) ?_ | with_reducible refine g0 (k:=?_) | with_reducible refine g1 (k:=?_) | with_reducible refine g2 (k:=?_) | with_reducible refine g3 (k:=?_) | with_reducible refine g4 (k:=?_) | with_reducible refine g5 (k:=?_) | with_reducible refine g6 (k:=?_) | with_reducible refine g7 (k:=?_) | with_reducible refine g8 (k:=?_) | with_reducible refine s0 (k:=fun _ hst=>?_) | with_reducible refine s1 (k:=fun _ hst=>?_) | with_reducible refine s2 (k:=fun _ hst=>?_) | with_reducible refine s3 (k:=fun _ hst=>?_) | with_reducible refine s4 (k:=fun _ hst=>?_) | with_reducible refine s5 (k:=fun _ hst=>?_) | with_reducible refine s6 (k:=fun _ hst=>?_) | with_reducible refine s7 (k:=fun _ hst=>?_) | with_reducible refine s8 (k:=fun _ hst=>?_) | simp only [projS,Qab])
    (refine ⟨by first | rfl | trivial,?_⟩;(first | assumption | exact St.drew (by assumption) | exact St.drew (St.drew (by assumption)) | exact St.drew (St.drew (St.drew (by assumption)))))
   ·rw [if_pos hc2]
    (refine ⟨by first | rfl | trivial,?_⟩;(first | assumption | exact St.drew (by assumption) | exact St.drew (St.drew (by assumption)) | exact St.drew (St.drew (St.drew (by assumption)))))
  ·rw [tog,tog,if_pos hc1]
   refine ⟨_,by decide,by decide,rfl,?_⟩
   refine Qad (fun hc2=>?_) (fun hc2=>?_)<;>simp only [b1s] at hc2
   ·rw [if_neg hc2]
    repeat (first | with_reducible refine pt_i ?_ | with_reducible refine gF (k:=?_) | with_reducible refine Qay (by omega) (by omega) ?_ | with_reducible refine g0 (k:=?_) | with_reducible refine g1 (k:=?_) | with_reducible refine g2 (k:=?_) | with_reducible refine g3 (k:=?_) | with_reducible refine g4 (k:=?_) | with_reducible refine g5 (k:=?_) | with_reducible refine g6 (k:=?_) | with_reducible refine g7 (k:=?_) | with_reducible refine g8 (k:=?_) | with_reducible refine s0 (k:=fun _ hst=>?_) | with_reducible refine s1 (k:=fun _ hst=>?_) | with_reducible refine s2 (k:=fun _ hst=>?_) | with_reducible refine s3 (k:=fun _ hst=>?_) | with_reducible refine s4 (k:=fun _ hst=>?_) | with_reducible refine s5 (k:=fun _ hst=>?_) | with_reducible refine s6 (k:=fun _ hst=>?_) | with_reducible refine s7 (k:=fun _ hst=>?_) | with_reducible refine s8 (k:=fun _ hst=>?_) | simp only [projS,Qab])
    (refine ⟨by first | rfl | trivial,?_⟩;(first | assumption | exact St.drew (by assumption) | exact St.drew (St.drew (by assumption)) | exact St.drew (St.drew (St.drew (by assumption)))))
   ·rw [if_pos hc2]
    (refine ⟨by first | rfl | trivial,?_⟩;(first | assumption | exact St.drew (by assumption) | exact St.drew (St.drew (by assumption)) | exact St.drew (St.drew (St.drew (by assumption)))))
def Wf (n:Nat) (s:S):Prop:=∀i,i<n→(-1≤s.up i∧s.up i<n)∧(-1≤s.left i∧s.left i<n)∧(-1≤s.right i∧s.right i<n)
def addC (s:S) (x:Nat) (c:Int):S:=
 if c=-1 then s else
  let s1:=s.Qcn x (IntKind.i32.wrap (s.size x+s.size c.toNat))
  let s2:=s1.Qf6 x (IntKind.i64.wrap (s.sum x+s.sum c.toNat))
  let s3:=s2.Qbq x (if s.least c.toNat<s.least x then s.least c.toNat else s.least x)
  s3.Qco x (if s.most c.toNat>s.most x then s.most c.toNat else s.most x)
def ownS (s:S) (x:Nat):S:=(((s.Qcn x 1).Qf6 x (s.value x)).Qbq x (s.value x)).Qco x (s.value x)
def pullS (s:S) (x:Int):S:=addC (addC (ownS s x.toNat) x.toNat (s.left x.toNat)) x.toNat (s.right x.toNat)
theorem Qjp {w:World} {F L n:Nat} {s:S} {x:Int} (h:IsF w.heap F L n s) (h0:0≤x) (h1:x<n) (hw:Wf n s) :
  Calls Pg Ql3 #[.pointer (some ⟨F,0,none⟩),.int .i32 x] w fun e w'=>e=.returned (.tuple #[])∧St w w' F L n (pullS s x):=by
 have hst:=St.start h
 obtain ⟨_,⟨hl0,hl1⟩,hr0,hr1⟩:=hw x.toNat (by omega)
 refine (Qqq _ _ _ (fun v w'=>v=.tuple #[]∧St w w' F L n (pullS s x)) ?_).mono (by rintro e w' ⟨v,rfl,rfl,k⟩;exact ⟨rfl,k⟩)
 unfold Qk7 nr
 repeat (first | with_reducible refine pt_i ?_ | with_reducible refine gF (k:=?_) | with_reducible refine Qay (by omega) (by omega) ?_ | with_reducible refine g0 (k:=?_) | with_reducible refine g1 (k:=?_) | with_reducible refine g2 (k:=?_) | with_reducible refine g3 (k:=?_) | with_reducible refine g4 (k:=?_) | with_reducible refine g5 (k:=?_) | with_reducible refine g6 (k:=?_) | with_reducible refine g7 (k:=?_) | with_reducible refine g8 (k:=?_) | with_reducible refine s0 (k:=fun _ hst=>?_) | with_reducible refine s1 (k:=fun _ hst=>?_) | with_reducible refine s2 (k:=fun _ hst=>?_) | with_reducible refine s3 (k:=fun _ hst=>?_) | with_reducible refine s4 (k:=fun _ hst=>?_) | with_reducible refine s5 (k:=fun _ hst=>?_) | with_reducible refine s6 (k:=fun _ hst=>?_) | with_reducible refine s7 (k:=fun _ hst=>?_) | with_reducible refine s8 (k:=fun _ hst=>?_) | simp only [projS,Qab])
 refine ⟨_,by decide,by decide,rfl,?_⟩
 refine Qad (fun hc1=>?_) (fun hc1=>?_)<;>simp only [b1s] at hc1
 ·refine ⟨_,by decide,by decide,rfl,?_⟩
  refine Qad (fun hc2=>?_) (fun hc2=>?_)<;>simp only [b1s] at hc2
  ·have e:pullS s x=ownS s x.toNat:=by rw [pullS,addC,addC,if_pos hc1,if_pos hc2]
   rw [e];(refine ⟨by first | rfl | trivial,?_⟩;(first | assumption | exact St.drew (by assumption) | exact St.drew (St.drew (by assumption)) | exact St.drew (St.drew (St.drew (by assumption)))))
  ·have e:pullS s x=addC (ownS s x.toNat) x.toNat (s.right x.toNat):=by rw [pullS,addC,addC,if_pos hc1,if_neg hc2,addC,if_neg hc2]
   rw [e,addC,if_neg hc2]
   repeat (first | with_reducible refine pt_i ?_ | with_reducible refine gF (k:=?_) | with_reducible refine Qay (by omega) (by omega) ?_ | with_reducible refine g0 (k:=?_) | with_reducible refine g1 (k:=?_) | with_reducible refine g2 (k:=?_) | with_reducible refine g3 (k:=?_) | with_reducible refine g4 (k:=?_) | with_reducible refine g5 (k:=?_) | with_reducible refine g6 (k:=?_) | with_reducible refine g7 (k:=?_) | with_reducible refine g8 (k:=?_) | with_reducible refine s0 (k:=fun _ hst=>?_) | with_reducible refine s1 (k:=fun _ hst=>?_) | with_reducible refine s2 (k:=fun _ hst=>?_) | with_reducible refine s3 (k:=fun _ hst=>?_) | with_reducible refine s4 (k:=fun _ hst=>?_) | with_reducible refine s5 (k:=fun _ hst=>?_) | with_reducible refine s6 (k:=fun _ hst=>?_) | with_reducible refine s7 (k:=fun _ hst=>?_) | with_reducible refine s8 (k:=fun _ hst=>?_) | simp only [projS,Qab])
   (refine ⟨by first | rfl | trivial,?_⟩;simp only [ownS,projS,Qab] at hst ⊢;(first | assumption | exact St.drew (by assumption) | exact St.drew (St.drew (by assumption)) | exact St.drew (St.drew (St.drew (by assumption)))))
 ·repeat (first | with_reducible refine pt_i ?_ | with_reducible refine gF (k:=?_) | with_reducible refine Qay (by omega) (by omega) ?_ | with_reducible refine g0 (k:=?_) | with_reducible refine g1 (k:=?_) | with_reducible refine g2 (k:=?_) | with_reducible refine g3 (k:=?_) | with_reducible refine g4 (k:=?_) | with_reducible refine g5 (k:=?_) | with_reducible refine g6 (k:=?_) | with_reducible refine g7 (k:=?_) | with_reducible refine g8 (k:=?_) | with_reducible refine s0 (k:=fun _ hst=>?_) | with_reducible refine s1 (k:=fun _ hst=>?_) | with_reducible refine s2 (k:=fun _ hst=>?_) | with_reducible refine s3 (k:=fun _ hst=>?_) | with_reducible refine s4 (k:=fun _ hst=>?_) | with_reducible refine s5 (k:=fun _ hst=>?_) | with_reducible refine s6 (k:=fun _ hst=>?_) | with_reducible refine s7 (k:=fun _ hst=>?_) | with_reducible refine s8 (k:=fun _ hst=>?_) | simp only [projS,Qab])
  refine ⟨_,by decide,by decide,rfl,?_⟩
  refine Qad (fun hc2=>?_) (fun hc2=>?_)<;>simp only [b1s] at hc2
  ·rw [pullS,addC.eq_1 _ _ (s.right x.toNat),if_pos hc2,addC,if_neg hc1]
   (refine ⟨by first | rfl | trivial,?_⟩;simp only [ownS,projS,Qab] at hst ⊢;(first | assumption | exact St.drew (by assumption) | exact St.drew (St.drew (by assumption)) | exact St.drew (St.drew (St.drew (by assumption)))))
  ·rw [pullS,addC.eq_1 _ _ (s.right x.toNat),if_neg hc2,addC,if_neg hc1]
   repeat (first | with_reducible refine pt_i ?_ | with_reducible refine gF (k:=?_) | with_reducible refine Qay (by omega) (by omega) ?_ | with_reducible refine g0 (k:=?_) | with_reducible refine g1 (k:=?_) | with_reducible refine g2 (k:=?_) | with_reducible refine g3 (k:=?_) | with_reducible refine g4 (k:=?_) | with_reducible refine g5 (k:=?_) | with_reducible refine g6 (k:=?_) | with_reducible refine g7 (k:=?_) | with_reducible refine g8 (k:=?_) | with_reducible refine s0 (k:=fun _ hst=>?_) | with_reducible refine s1 (k:=fun _ hst=>?_) | with_reducible refine s2 (k:=fun _ hst=>?_) | with_reducible refine s3 (k:=fun _ hst=>?_) | with_reducible refine s4 (k:=fun _ hst=>?_) | with_reducible refine s5 (k:=fun _ hst=>?_) | with_reducible refine s6 (k:=fun _ hst=>?_) | with_reducible refine s7 (k:=fun _ hst=>?_) | with_reducible refine s8 (k:=fun _ hst=>?_) | simp only [projS,Qab])
   (refine ⟨by first | rfl | trivial,?_⟩;simp only [ownS,projS,Qab] at hst ⊢;(first | assumption | exact St.drew (by assumption) | exact St.drew (St.drew (by assumption)) | exact St.drew (St.drew (St.drew (by assumption)))))
def hangS (s:S) (c x:Int) (left:Bool):S:=
 let s1:=if left then s.Qa2 x.toNat c else s.Qaz x.toNat c
 if c=-1 then s1 else s1.w_up c.toNat x
theorem Qur {w:World} {F L n:Nat} {s:S} {c x:Int} {left:Bool} (h:IsF w.heap F L n s) (h0:0≤x) (h1:x<n) (hc0:-1≤c) (hc1:c<n) :
  Calls Pg Ql4 #[.pointer (some ⟨F,0,none⟩),.int .i32 c,.int .i32 x,.bool left] w fun e w'=>e=.returned (.tuple #[])∧St w w' F L n (hangS s c x left):=by
 have hst:=St.start h
 refine (Qqs _ _ _ _ _ (fun v w'=>v=.tuple #[]∧St w w' F L n (hangS s c x left)) ?_).mono (by rintro e w' ⟨v,rfl,rfl,k⟩;exact ⟨rfl,k⟩)
 unfold Qk9 nr
 cases left
 all_goals
  simp only [cond_true,cond_false,hangS]
  repeat (first | with_reducible refine pt_i ?_ | with_reducible refine gF (k:=?_) | with_reducible refine Qay (by omega) (by omega) ?_ | with_reducible refine g0 (k:=?_) | with_reducible refine g1 (k:=?_) | with_reducible refine g2 (k:=?_) | with_reducible refine g3 (k:=?_) | with_reducible refine g4 (k:=?_) | with_reducible refine g5 (k:=?_) | with_reducible refine g6 (k:=?_) | with_reducible refine g7 (k:=?_) | with_reducible refine g8 (k:=?_) | with_reducible refine s0 (k:=fun _ hst=>?_) | with_reducible refine s1 (k:=fun _ hst=>?_) | with_reducible refine s2 (k:=fun _ hst=>?_) | with_reducible refine s3 (k:=fun _ hst=>?_) | with_reducible refine s4 (k:=fun _ hst=>?_) | with_reducible refine s5 (k:=fun _ hst=>?_) | with_reducible refine s6 (k:=fun _ hst=>?_) | with_reducible refine s7 (k:=fun _ hst=>?_) | with_reducible refine s8 (k:=fun _ hst=>?_) | simp only [projS,Qab])
  refine Qad (fun hc1=>?_) (fun hc1=>?_)<;>simp only [b1s] at hc1
  ·rw [if_neg hc1]
   repeat (first | with_reducible refine pt_i ?_ | with_reducible refine gF (k:=?_) | with_reducible refine Qay (by omega) (by omega) ?_ | with_reducible refine g0 (k:=?_) | with_reducible refine g1 (k:=?_) | with_reducible refine g2 (k:=?_) | with_reducible refine g3 (k:=?_) | with_reducible refine g4 (k:=?_) | with_reducible refine g5 (k:=?_) | with_reducible refine g6 (k:=?_) | with_reducible refine g7 (k:=?_) | with_reducible refine g8 (k:=?_) | with_reducible refine s0 (k:=fun _ hst=>?_) | with_reducible refine s1 (k:=fun _ hst=>?_) | with_reducible refine s2 (k:=fun _ hst=>?_) | with_reducible refine s3 (k:=fun _ hst=>?_) | with_reducible refine s4 (k:=fun _ hst=>?_) | with_reducible refine s5 (k:=fun _ hst=>?_) | with_reducible refine s6 (k:=fun _ hst=>?_) | with_reducible refine s7 (k:=fun _ hst=>?_) | with_reducible refine s8 (k:=fun _ hst=>?_) | simp only [projS,Qab])
   (refine ⟨by first | rfl | trivial,?_⟩;(first | assumption | exact St.drew (by assumption) | exact St.drew (St.drew (by assumption)) | exact St.drew (St.drew (St.drew (by assumption)))))
  ·rw [if_pos hc1]
   (refine ⟨by first | rfl | trivial,?_⟩;(first | assumption | exact St.drew (by assumption) | exact St.drew (St.drew (by assumption)) | exact St.drew (St.drew (St.drew (by assumption)))))
theorem Qe7 {n:Nat} {s:S} {c x:Int} {left:Bool} (hw:Wf n s) (h0:0≤x) (h1:x<n) (hc0:-1≤c) (hc1:c<n):Wf n (hangS s c x left):=by
 intro i hi
 have h:=hw i hi
 unfold hangS
 cases left<;>simp only [if_true,Bool.false_eq_true,if_false]<;>split<;>simp [upd]<;>(repeat' split)<;>omega
theorem Qws {n:Nat} {s:S} {c:Int} {x:Nat} (hw:Wf n s) (hc0:-1≤c) (hc1:c<n):Wf n (s.w_up x c):=by
 intro i hi
 have h:=hw i hi
 simp [upd];split<;>omega
theorem Qka (s:S) (x:Int):(pullS s x).up=s.up∧(pullS s x).left=s.left∧(pullS s x).right=s.right∧(pullS s x).turned=s.turned∧(pullS s x).value=s.value:=by
 unfold pullS addC ownS
 (repeat' split)<;>simp
theorem Qn6 {n:Nat} {s:S} {x:Int} (hw:Wf n s):Wf n (pullS s x):=by
 obtain ⟨a,b,c,_⟩:=Qka s x
 intro i hi
 rw [a,b,c];exact hw i hi
def rotS (s:S) (x:Int):S:=
 let p:=s.up x.toNat
 let g:=s.up p.toNat
 let left:=s.left p.toNat==x
 let s1:=if left then hangS s (s.right x.toNat) p true else hangS s (s.left x.toNat) p false
 let above:=g != -1&&s1.left g.toNat==p
 let s2:=hangS s1 p x (!left)
 let s3:=s2.w_up x.toNat g
 let s4:=if g=-1 then s3 else hangS s3 x g above
 pullS (pullS s4 p) x
theorem Qom {w:World} {F L n:Nat} {s:S} {x:Int} (h:IsF w.heap F L n s) (h0:0≤x) (h1:x<n) (hw:Wf n s) (hp:s.up x.toNat≠-1) :
  Calls Pg Qjj #[.pointer (some ⟨F,0,none⟩),.int .i32 x] w fun e w'=>e=.returned (.tuple #[])∧St w w' F L n (rotS s x):=by
 have hst:=St.start h
 obtain ⟨⟨hp0,hp1⟩,⟨hl0,hl1⟩,hr0,hr1⟩:=hw x.toNat (by omega)
 obtain ⟨⟨hg0,hg1⟩,⟨hpl0,hpl1⟩,_⟩:=hw (s.up x.toNat).toNat (by omega)
 have hpp:0≤s.up x.toNat:=by omega
 refine (Qoi _ _ _ (fun v w'=>v=.tuple #[]∧St w w' F L n (rotS s x)) ?_).mono (by rintro e w' ⟨v,rfl,rfl,k⟩;exact ⟨rfl,k⟩)
 unfold Qja nr
 repeat (first | with_reducible refine pt_i ?_ | with_reducible refine gF (k:=?_) | with_reducible refine Qay (by omega) (by omega) ?_ | with_reducible refine g0 (k:=?_) | with_reducible refine g1 (k:=?_) | with_reducible refine g2 (k:=?_) | with_reducible refine g3 (k:=?_) | with_reducible refine g4 (k:=?_) | with_reducible refine g5 (k:=?_) | with_reducible refine g6 (k:=?_) | with_reducible refine g7 (k:=?_) | with_reducible refine g8 (k:=?_) | with_reducible refine s0 (k:=fun _ hst=>?_) | with_reducible refine s1 (k:=fun _ hst=>?_) | with_reducible refine s2 (k:=fun _ hst=>?_) | with_reducible refine s3 (k:=fun _ hst=>?_) | with_reducible refine s4 (k:=fun _ hst=>?_) | with_reducible refine s5 (k:=fun _ hst=>?_) | with_reducible refine s6 (k:=fun _ hst=>?_) | with_reducible refine s7 (k:=fun _ hst=>?_) | with_reducible refine s8 (k:=fun _ hst=>?_) | simp only [projS,Qab])
 refine Qad (fun hL=>?_) (fun hL=>?_)
 ·repeat (first | with_reducible refine pt_i ?_ | with_reducible refine gF (k:=?_) | with_reducible refine Qay (by omega) (by omega) ?_ | with_reducible refine g0 (k:=?_) | with_reducible refine g1 (k:=?_) | with_reducible refine g2 (k:=?_) | with_reducible refine g3 (k:=?_) | with_reducible refine g4 (k:=?_) | with_reducible refine g5 (k:=?_) | with_reducible refine g6 (k:=?_) | with_reducible refine g7 (k:=?_) | with_reducible refine g8 (k:=?_) | with_reducible refine s0 (k:=fun _ hst=>?_) | with_reducible refine s1 (k:=fun _ hst=>?_) | with_reducible refine s2 (k:=fun _ hst=>?_) | with_reducible refine s3 (k:=fun _ hst=>?_) | with_reducible refine s4 (k:=fun _ hst=>?_) | with_reducible refine s5 (k:=fun _ hst=>?_) | with_reducible refine s6 (k:=fun _ hst=>?_) | with_reducible refine s7 (k:=fun _ hst=>?_) | with_reducible refine s8 (k:=fun _ hst=>?_) | simp only [projS,Qab])
  refine (Qur hst.i hpp hp1 hr0 hr1).mono ?_
  rintro e w' ⟨rfl,hst'⟩;refine ⟨rfl,?_⟩;have hst:=St.trans (by first | assumption | exact St.drew (by assumption) | exact St.drew (St.drew (by assumption)) | exact St.drew (St.drew (St.drew (by assumption)))) hst';clear hst'
  have hw1:=Qe7 (left:=true) hw hpp hp1 hr0 hr1
  refine Qad (fun hg=>?_) (fun hg=>?_)<;>simp only [b1s] at hg
  ·repeat (first | with_reducible refine pt_i ?_ | with_reducible refine gF (k:=?_) | with_reducible refine Qay (by omega) (by omega) ?_ | with_reducible refine g0 (k:=?_) | with_reducible refine g1 (k:=?_) | with_reducible refine g2 (k:=?_) | with_reducible refine g3 (k:=?_) | with_reducible refine g4 (k:=?_) | with_reducible refine g5 (k:=?_) | with_reducible refine g6 (k:=?_) | with_reducible refine g7 (k:=?_) | with_reducible refine g8 (k:=?_) | with_reducible refine s0 (k:=fun _ hst=>?_) | with_reducible refine s1 (k:=fun _ hst=>?_) | with_reducible refine s2 (k:=fun _ hst=>?_) | with_reducible refine s3 (k:=fun _ hst=>?_) | with_reducible refine s4 (k:=fun _ hst=>?_) | with_reducible refine s5 (k:=fun _ hst=>?_) | with_reducible refine s6 (k:=fun _ hst=>?_) | with_reducible refine s7 (k:=fun _ hst=>?_) | with_reducible refine s8 (k:=fun _ hst=>?_) | simp only [projS,Qab])
   refine (Qur hst.i h0 h1 hp0 hp1).mono ?_
   rintro e w' ⟨rfl,hst'⟩;refine ⟨rfl,?_⟩;have hst:=St.trans (by first | assumption | exact St.drew (by assumption) | exact St.drew (St.drew (by assumption)) | exact St.drew (St.drew (St.drew (by assumption)))) hst';clear hst'
   have hw2:=Qe7 (left:=!(s.left (s.up x.toNat).toNat==x)) hw1 h0 h1 hp0 hp1
   repeat (first | with_reducible refine pt_i ?_ | with_reducible refine gF (k:=?_) | with_reducible refine Qay (by omega) (by omega) ?_ | with_reducible refine g0 (k:=?_) | with_reducible refine g1 (k:=?_) | with_reducible refine g2 (k:=?_) | with_reducible refine g3 (k:=?_) | with_reducible refine g4 (k:=?_) | with_reducible refine g5 (k:=?_) | with_reducible refine g6 (k:=?_) | with_reducible refine g7 (k:=?_) | with_reducible refine g8 (k:=?_) | with_reducible refine s0 (k:=fun _ hst=>?_) | with_reducible refine s1 (k:=fun _ hst=>?_) | with_reducible refine s2 (k:=fun _ hst=>?_) | with_reducible refine s3 (k:=fun _ hst=>?_) | with_reducible refine s4 (k:=fun _ hst=>?_) | with_reducible refine s5 (k:=fun _ hst=>?_) | with_reducible refine s6 (k:=fun _ hst=>?_) | with_reducible refine s7 (k:=fun _ hst=>?_) | with_reducible refine s8 (k:=fun _ hst=>?_) | simp only [projS,Qab])
   have hw3:=Qws (x:=x.toNat) hw2 hg0 hg1
   refine Qad (fun hg'=>?_) (fun hg'=>?_)<;>simp only [b1s] at hg'
   ·refine (Qur hst.i (by omega) hg1 (by omega) h1).mono ?_
    rintro e w' ⟨rfl,hst'⟩;refine ⟨rfl,?_⟩;have hst:=St.trans (by first | assumption | exact St.drew (by assumption) | exact St.drew (St.drew (by assumption)) | exact St.drew (St.drew (St.drew (by assumption)))) hst';clear hst'
    have hw4:=Qe7 (left:=(hangS s (s.right x.toNat) (s.up x.toNat) true).left (s.up (s.up x.toNat).toNat).toNat==s.up x.toNat) hw3 (by omega:0≤s.up (s.up x.toNat).toNat) hg1 (by omega:-1≤x) h1
    refine (Qjp hst.i hpp hp1 hw4).mono ?_
    rintro e w' ⟨rfl,hst'⟩;refine ⟨rfl,?_⟩;have hst:=St.trans (by first | assumption | exact St.drew (by assumption) | exact St.drew (St.drew (by assumption)) | exact St.drew (St.drew (St.drew (by assumption)))) hst';clear hst'
    refine (Qjp hst.i h0 h1 (Qn6 hw4)).mono ?_
    rintro e w' ⟨rfl,hst'⟩;refine ⟨rfl,?_⟩;have hst:=St.trans (by first | assumption | exact St.drew (by assumption) | exact St.drew (St.drew (by assumption)) | exact St.drew (St.drew (St.drew (by assumption)))) hst';clear hst'
    have e:rotS s x=pullS (pullS (hangS ((hangS (hangS s (s.right x.toNat) (s.up x.toNat) true) (s.up x.toNat) x (!(s.left (s.up x.toNat).toNat==x))).w_up x.toNat (s.up (s.up x.toNat).toNat)) x (s.up (s.up x.toNat).toNat) ((hangS s (s.right x.toNat) (s.up x.toNat) true).left (s.up (s.up x.toNat).toNat).toNat==s.up x.toNat)) (s.up x.toNat)) x:=by
     have hgb:(s.up (s.up x.toNat).toNat != -1)=true:=by simpa using hg
     simp only [rotS,hL,if_true,if_neg hg,hgb,Bool.true_and]
    rw [e];(refine ⟨by first | rfl | trivial,?_⟩;(first | assumption | exact St.drew (by assumption) | exact St.drew (St.drew (by assumption)) | exact St.drew (St.drew (St.drew (by assumption)))))
   ·exact absurd hg' hg
  ·refine (Qur hst.i h0 h1 hp0 hp1).mono ?_
   rintro e w' ⟨rfl,hst'⟩;refine ⟨rfl,?_⟩;have hst:=St.trans (by first | assumption | exact St.drew (by assumption) | exact St.drew (St.drew (by assumption)) | exact St.drew (St.drew (St.drew (by assumption)))) hst';clear hst'
   have hw2:=Qe7 (left:=!(s.left (s.up x.toNat).toNat==x)) hw1 h0 h1 hp0 hp1
   repeat (first | with_reducible refine pt_i ?_ | with_reducible refine gF (k:=?_) | with_reducible refine Qay (by omega) (by omega) ?_ | with_reducible refine g0 (k:=?_) | with_reducible refine g1 (k:=?_) | with_reducible refine g2 (k:=?_) | with_reducible refine g3 (k:=?_) | with_reducible refine g4 (k:=?_) | with_reducible refine g5 (k:=?_) | with_reducible refine g6 (k:=?_) | with_reducible refine g7 (k:=?_) | with_reducible refine g8 (k:=?_) | with_reducible refine s0 (k:=fun _ hst=>?_) | with_reducible refine s1 (k:=fun _ hst=>?_) | with_reducible refine s2 (k:=fun _ hst=>?_) | with_reducible refine s3 (k:=fun _ hst=>?_) | with_reducible refine s4 (k:=fun _ hst=>?_) | with_reducible refine s5 (k:=fun _ hst=>?_) | with_reducible refine s6 (k:=fun _ hst=>?_) | with_reducible refine s7 (k:=fun _ hst=>?_) | with_reducible refine s8 (k:=fun _ hst=>?_) | simp only [projS,Qab])
   have hw3:=Qws (x:=x.toNat) hw2 hg0 hg1
   refine Qad (fun hg'=>?_) (fun hg'=>?_)<;>simp only [b1s] at hg'
   ·exact absurd hg hg'
   ·refine (Qjp hst.i hpp hp1 hw3).mono ?_
    rintro e w' ⟨rfl,hst'⟩;refine ⟨rfl,?_⟩;have hst:=St.trans (by first | assumption | exact St.drew (by assumption) | exact St.drew (St.drew (by assumption)) | exact St.drew (St.drew (St.drew (by assumption)))) hst';clear hst'
    refine (Qjp hst.i h0 h1 (Qn6 hw3)).mono ?_
    rintro e w' ⟨rfl,hst'⟩;refine ⟨rfl,?_⟩;have hst:=St.trans (by first | assumption | exact St.drew (by assumption) | exact St.drew (St.drew (by assumption)) | exact St.drew (St.drew (St.drew (by assumption)))) hst';clear hst'
    have e:rotS s x=pullS (pullS ((hangS (hangS s (s.right x.toNat) (s.up x.toNat) true) (s.up x.toNat) x (!(s.left (s.up x.toNat).toNat==x))).w_up x.toNat (s.up (s.up x.toNat).toNat)) (s.up x.toNat)) x:=by
     simp only [rotS,hL,if_true,if_pos hg]
    rw [e];(refine ⟨by first | rfl | trivial,?_⟩;(first | assumption | exact St.drew (by assumption) | exact St.drew (St.drew (by assumption)) | exact St.drew (St.drew (St.drew (by assumption)))))
 ·repeat (first | with_reducible refine pt_i ?_ | with_reducible refine gF (k:=?_) | with_reducible refine Qay (by omega) (by omega) ?_ | with_reducible refine g0 (k:=?_) | with_reducible refine g1 (k:=?_) | with_reducible refine g2 (k:=?_) | with_reducible refine g3 (k:=?_) | with_reducible refine g4 (k:=?_) | with_reducible refine g5 (k:=?_) | with_reducible refine g6 (k:=?_) | with_reducible refine g7 (k:=?_) | with_reducible refine g8 (k:=?_) | with_reducible refine s0 (k:=fun _ hst=>?_) | with_reducible refine s1 (k:=fun _ hst=>?_) | with_reducible refine s2 (k:=fun _ hst=>?_) | with_reducible refine s3 (k:=fun _ hst=>?_) | with_reducible refine s4 (k:=fun _ hst=>?_) | with_reducible refine s5 (k:=fun _ hst=>?_) | with_reducible refine s6 (k:=fun _ hst=>?_) | with_reducible refine s7 (k:=fun _ hst=>?_) | with_reducible refine s8 (k:=fun _ hst=>?_) | simp only [projS,Qab])
  refine (Qur hst.i hpp hp1 hl0 hl1).mono ?_
  rintro e w' ⟨rfl,hst'⟩;refine ⟨rfl,?_⟩;have hst:=St.trans (by first | assumption | exact St.drew (by assumption) | exact St.drew (St.drew (by assumption)) | exact St.drew (St.drew (St.drew (by assumption)))) hst';clear hst'
  have hw1:=Qe7 (left:=false) hw hpp hp1 hl0 hl1
  refine Qad (fun hg=>?_) (fun hg=>?_)<;>simp only [b1s] at hg
  ·repeat (first | with_reducible refine pt_i ?_ | with_reducible refine gF (k:=?_) | with_reducible refine Qay (by omega) (by omega) ?_ | with_reducible refine g0 (k:=?_) | with_reducible refine g1 (k:=?_) | with_reducible refine g2 (k:=?_) | with_reducible refine g3 (k:=?_) | with_reducible refine g4 (k:=?_) | with_reducible refine g5 (k:=?_) | with_reducible refine g6 (k:=?_) | with_reducible refine g7 (k:=?_) | with_reducible refine g8 (k:=?_) | with_reducible refine s0 (k:=fun _ hst=>?_) | with_reducible refine s1 (k:=fun _ hst=>?_) | with_reducible refine s2 (k:=fun _ hst=>?_) | with_reducible refine s3 (k:=fun _ hst=>?_) | with_reducible refine s4 (k:=fun _ hst=>?_) | with_reducible refine s5 (k:=fun _ hst=>?_) | with_reducible refine s6 (k:=fun _ hst=>?_) | with_reducible refine s7 (k:=fun _ hst=>?_) | with_reducible refine s8 (k:=fun _ hst=>?_) | simp only [projS,Qab])
   refine (Qur hst.i h0 h1 hp0 hp1).mono ?_
   rintro e w' ⟨rfl,hst'⟩;refine ⟨rfl,?_⟩;have hst:=St.trans (by first | assumption | exact St.drew (by assumption) | exact St.drew (St.drew (by assumption)) | exact St.drew (St.drew (St.drew (by assumption)))) hst';clear hst'
   have hw2:=Qe7 (left:=!(s.left (s.up x.toNat).toNat==x)) hw1 h0 h1 hp0 hp1
   repeat (first | with_reducible refine pt_i ?_ | with_reducible refine gF (k:=?_) | with_reducible refine Qay (by omega) (by omega) ?_ | with_reducible refine g0 (k:=?_) | with_reducible refine g1 (k:=?_) | with_reducible refine g2 (k:=?_) | with_reducible refine g3 (k:=?_) | with_reducible refine g4 (k:=?_) | with_reducible refine g5 (k:=?_) | with_reducible refine g6 (k:=?_) | with_reducible refine g7 (k:=?_) | with_reducible refine g8 (k:=?_) | with_reducible refine s0 (k:=fun _ hst=>?_) | with_reducible refine s1 (k:=fun _ hst=>?_) | with_reducible refine s2 (k:=fun _ hst=>?_) | with_reducible refine s3 (k:=fun _ hst=>?_) | with_reducible refine s4 (k:=fun _ hst=>?_) | with_reducible refine s5 (k:=fun _ hst=>?_) | with_reducible refine s6 (k:=fun _ hst=>?_) | with_reducible refine s7 (k:=fun _ hst=>?_) | with_reducible refine s8 (k:=fun _ hst=>?_) | simp only [projS,Qab])
   have hw3:=Qws (x:=x.toNat) hw2 hg0 hg1
   refine Qad (fun hg'=>?_) (fun hg'=>?_)<;>simp only [b1s] at hg'
   ·refine (Qur hst.i (by omega) hg1 (by omega) h1).mono ?_
    rintro e w' ⟨rfl,hst'⟩;refine ⟨rfl,?_⟩;have hst:=St.trans (by first | assumption | exact St.drew (by assumption) | exact St.drew (St.drew (by assumption)) | exact St.drew (St.drew (St.drew (by assumption)))) hst';clear hst'
    have hw4:=Qe7 (left:=(hangS s (s.left x.toNat) (s.up x.toNat) false).left (s.up (s.up x.toNat).toNat).toNat==s.up x.toNat) hw3 (by omega:0≤s.up (s.up x.toNat).toNat) hg1 (by omega:-1≤x) h1
    refine (Qjp hst.i hpp hp1 hw4).mono ?_
    rintro e w' ⟨rfl,hst'⟩;refine ⟨rfl,?_⟩;have hst:=St.trans (by first | assumption | exact St.drew (by assumption) | exact St.drew (St.drew (by assumption)) | exact St.drew (St.drew (St.drew (by assumption)))) hst';clear hst'
    refine (Qjp hst.i h0 h1 (Qn6 hw4)).mono ?_
    rintro e w' ⟨rfl,hst'⟩;refine ⟨rfl,?_⟩;have hst:=St.trans (by first | assumption | exact St.drew (by assumption) | exact St.drew (St.drew (by assumption)) | exact St.drew (St.drew (St.drew (by assumption)))) hst';clear hst'
    have e:rotS s x=pullS (pullS (hangS ((hangS (hangS s (s.left x.toNat) (s.up x.toNat) false) (s.up x.toNat) x (!(s.left (s.up x.toNat).toNat==x))).w_up x.toNat (s.up (s.up x.toNat).toNat)) x (s.up (s.up x.toNat).toNat) ((hangS s (s.left x.toNat) (s.up x.toNat) false).left (s.up (s.up x.toNat).toNat).toNat==s.up x.toNat)) (s.up x.toNat)) x:=by
     have hgb:(s.up (s.up x.toNat).toNat != -1)=true:=by simpa using hg
     simp only [rotS,hL,Bool.false_eq_true,if_false,if_neg hg,hgb,Bool.true_and]
    rw [e];(refine ⟨by first | rfl | trivial,?_⟩;(first | assumption | exact St.drew (by assumption) | exact St.drew (St.drew (by assumption)) | exact St.drew (St.drew (St.drew (by assumption)))))
   ·exact absurd hg' hg
  ·refine (Qur hst.i h0 h1 hp0 hp1).mono ?_
   rintro e w' ⟨rfl,hst'⟩;refine ⟨rfl,?_⟩;have hst:=St.trans (by first | assumption | exact St.drew (by assumption) | exact St.drew (St.drew (by assumption)) | exact St.drew (St.drew (St.drew (by assumption)))) hst';clear hst'
   have hw2:=Qe7 (left:=!(s.left (s.up x.toNat).toNat==x)) hw1 h0 h1 hp0 hp1
   repeat (first | with_reducible refine pt_i ?_ | with_reducible refine gF (k:=?_) | with_reducible refine Qay (by omega) (by omega) ?_ | with_reducible refine g0 (k:=?_) | with_reducible refine g1 (k:=?_) | with_reducible refine g2 (k:=?_) | with_reducible refine g3 (k:=?_) | with_reducible refine g4 (k:=?_) | with_reducible refine g5 (k:=?_) | with_reducible refine g6 (k:=?_) | with_reducible refine g7 (k:=?_) | with_reducible refine g8 (k:=?_) | with_reducible refine s0 (k:=fun _ hst=>?_) | with_reducible refine s1 (k:=fun _ hst=>?_) | with_reducible refine s2 (k:=fun _ hst=>?_) | with_reducible refine s3 (k:=fun _ hst=>?_) | with_reducible refine s4 (k:=fun _ hst=>?_) | with_reducible refine s5 (k:=fun _ hst=>?_) | with_reducible refine s6 (k:=fun _ hst=>?_) | with_reducible refine s7 (k:=fun _ hst=>?_) | with_reducible refine s8 (k:=fun _ hst=>?_) | simp only [projS,Qab])
   have hw3:=Qws (x:=x.toNat) hw2 hg0 hg1
   refine Qad (fun hg'=>?_) (fun hg'=>?_)<;>simp only [b1s] at hg'
   ·exact absurd hg hg'
   ·refine (Qjp hst.i hpp hp1 hw3).mono ?_
    rintro e w' ⟨rfl,hst'⟩;refine ⟨rfl,?_⟩;have hst:=St.trans (by first | assumption | exact St.drew (by assumption) | exact St.drew (St.drew (by assumption)) | exact St.drew (St.drew (St.drew (by assumption)))) hst';clear hst'
    refine (Qjp hst.i h0 h1 (Qn6 hw3)).mono ?_
    rintro e w' ⟨rfl,hst'⟩;refine ⟨rfl,?_⟩;have hst:=St.trans (by first | assumption | exact St.drew (by assumption) | exact St.drew (St.drew (by assumption)) | exact St.drew (St.drew (St.drew (by assumption)))) hst';clear hst'
    have e:rotS s x=pullS (pullS ((hangS (hangS s (s.left x.toNat) (s.up x.toNat) false) (s.up x.toNat) x (!(s.left (s.up x.toNat).toNat==x))).w_up x.toNat (s.up (s.up x.toNat).toNat)) (s.up x.toNat)) x:=by
     simp only [rotS,hL,Bool.false_eq_true,if_false,if_pos hg]
    rw [e];(refine ⟨by first | rfl | trivial,?_⟩;(first | assumption | exact St.drew (by assumption) | exact St.drew (St.drew (by assumption)) | exact St.drew (St.drew (St.drew (by assumption)))))
end Seq
end Go.Proofs.YtokjfdggpapkbaaGreatDoor
