/-
The sequences of layer 4: what each inner function makes of the records.
Conditions: the record's own (places within the row).
-/
import Derived.Test.YtpmicakdjhoafaaGreatDoorSeqR
import Derived.Test.YtpmicakdjhoafaaGreatDoorShSeq
set_option linter.unusedVariables false
set_option linter.unusedSimpArgs false
namespace Go.Proofs.YtpmicakdjhoafaaGreatDoor
open Go
namespace Seq
def tog (s:S) (c:Int):S:=if c=-1 then s else s.Qbg c.toNat (!(s.turned c.toNat))
def swapS (s:S) (x:Nat):S:=((s.Qbg x false).Qbe x (s.right x)).Qa4 x (s.left x)
def pushS (s:S) (x:Int):S:=
 if s.turned x.toNat then tog (tog (swapS s x.toNat) (s.right x.toNat)) (s.left x.toNat) else s
theorem Qsq {w:World} {F L n:Nat} {s:S} {x:Int} (h:IsF w.heap F L n s) (h0:0≤x) (h1:x<n)
  (hl0:-1≤s.left x.toNat) (hl1:s.left x.toNat<n) (hr0:-1≤s.right x.toNat) (hr1:s.right x.toNat<n) :
  Calls Pg Qcf #[.pointer (some ⟨F,0,none⟩),.int .i32 x] w fun e w'=>e=.returned (.tuple #[])∧St w w' F L n (pushS s x):=by
 have hst:=St.start h
 refine (Qo3 _ _ _ (fun v w'=>v=.tuple #[]∧St w w' F L n (pushS s x)) ?_).mono (by rintro e w' ⟨v,rfl,rfl,k⟩;exact ⟨rfl,k⟩)
 unfold Qk7
 repeat (first | with_reducible refine pt_i ?_ | with_reducible refine gF (k:=?_) | with_reducible refine Qa1 (by omega) (by omega) ?_ | with_reducible refine g0 (k:=?_) | with_reducible refine g1 (k:=?_) | with_reducible refine g2 (k:=?_) | with_reducible refine g3 (k:=?_) | with_reducible refine g4 (k:=?_) | with_reducible refine g5 (k:=?_) | with_reducible refine g6 (k:=?_) | with_reducible refine g7 (k:=?_) | with_reducible refine g8 (k:=?_) | with_reducible refine s0 (k:=fun _ hst=>?_) | with_reducible refine s1 (k:=fun _ hst=>?_) | with_reducible refine s2 (k:=fun _ hst=>?_) | with_reducible refine s3 (k:=fun _ hst=>?_) | with_reducible refine s4 (k:=fun _ hst=>?_) | with_reducible refine s5 (k:=fun _ hst=>?_) | with_reducible refine s6 (k:=fun _ hst=>?_) | with_reducible refine s7 (k:=fun _ hst=>?_) | with_reducible refine s8 (k:=fun _ hst=>?_) | simp only [projS,Qab])
 refine Qag (fun hc=>?_) (fun hc=>?_)<;>simp only [b1s] at hc
 ·have:pushS s x=s:=by simp [pushS,hc]
  rw [this];(refine ⟨by first | rfl | trivial,?_⟩;(first | assumption | exact St.drew (by assumption) | exact St.drew (St.drew (by assumption)) | exact St.drew (St.drew (St.drew (by assumption)))))
 ·repeat (first | with_reducible refine pt_i ?_ | with_reducible refine gF (k:=?_) | with_reducible refine Qa1 (by omega) (by omega) ?_ | with_reducible refine g0 (k:=?_) | with_reducible refine g1 (k:=?_) | with_reducible refine g2 (k:=?_) | with_reducible refine g3 (k:=?_) | with_reducible refine g4 (k:=?_) | with_reducible refine g5 (k:=?_) | with_reducible refine g6 (k:=?_) | with_reducible refine g7 (k:=?_) | with_reducible refine g8 (k:=?_) | with_reducible refine s0 (k:=fun _ hst=>?_) | with_reducible refine s1 (k:=fun _ hst=>?_) | with_reducible refine s2 (k:=fun _ hst=>?_) | with_reducible refine s3 (k:=fun _ hst=>?_) | with_reducible refine s4 (k:=fun _ hst=>?_) | with_reducible refine s5 (k:=fun _ hst=>?_) | with_reducible refine s6 (k:=fun _ hst=>?_) | with_reducible refine s7 (k:=fun _ hst=>?_) | with_reducible refine s8 (k:=fun _ hst=>?_) | simp only [projS,Qab])
  have hs:pushS s x=tog (tog (swapS s x.toNat) (s.right x.toNat)) (s.left x.toNat):=by simp [pushS,hc]
  rw [hs]
  refine ⟨_,by decide,by decide,rfl,?_⟩
  refine Qag (fun hc1=>?_) (fun hc1=>?_)<;>simp only [b1s] at hc1
  ·rw [tog,tog,if_neg hc1]
   repeat (first | with_reducible refine pt_i ?_ | with_reducible refine gF (k:=?_) | with_reducible refine Qa1 (by omega) (by omega) ?_ | with_reducible refine g0 (k:=?_) | with_reducible refine g1 (k:=?_) | with_reducible refine g2 (k:=?_) | with_reducible refine g3 (k:=?_) | with_reducible refine g4 (k:=?_) | with_reducible refine g5 (k:=?_) | with_reducible refine g6 (k:=?_) | with_reducible refine g7 (k:=?_) | with_reducible refine g8 (k:=?_) | with_reducible refine s0 (k:=fun _ hst=>?_) | with_reducible refine s1 (k:=fun _ hst=>?_) | with_reducible refine s2 (k:=fun _ hst=>?_) | with_reducible refine s3 (k:=fun _ hst=>?_) | with_reducible refine s4 (k:=fun _ hst=>?_) | with_reducible refine s5 (k:=fun _ hst=>?_) | with_reducible refine s6 (k:=fun _ hst=>?_) | with_reducible refine s7 (k:=fun _ hst=>?_) | with_reducible refine s8 (k:=fun _ hst=>?_) | simp only [projS,Qab])
   refine ⟨_,by decide,by decide,rfl,?_⟩
   refine Qag (fun hc2=>?_) (fun hc2=>?_)<;>simp only [b1s] at hc2
   ·rw [if_neg hc2]
    repeat (first | with_reducible refine pt_i ?_ | with_reducible refine gF (k:=?_) | with_reducible refine Qa1 (by omega) (by omega) ?_ | with_reducible refine g0 (k:=?_) | with_reducible refine g1 (k:=?_) | with_reducible refine g2 (k:=?_) | with_reducible refine g3 (k:=?_) | with_reducible refine g4 (k:=?_) | with_reducible refine g5 (k:=?_) | with_reducible refine g6 (k:=?_) | with_reducible refine g7 (k:=?_) | with_reducible refine g8 (k:=?_) | with_reducible refine s0 (k:=fun _ hst=>?_) | with_reducible refine s1 (k:=fun _ hst=>?_) | with_reducible refine s2 (k:=fun _ hst=>?_) | with_reducible refine s3 (k:=fun _ hst=>?_) | with_reducible refine s4 (k:=fun _ hst=>?_) | with_reducible refine s5 (k:=fun _ hst=>?_) | with_reducible refine s6 (k:=fun _ hst=>?_) | with_reducible refine s7 (k:=fun _ hst=>?_) | with_reducible refine s8 (k:=fun _ hst=>?_) | simp only [projS,Qab])
    (refine ⟨by first | rfl | trivial,?_⟩;(first | assumption | exact St.drew (by assumption) | exact St.drew (St.drew (by assumption)) | exact St.drew (St.drew (St.drew (by assumption)))))
   ·rw [if_pos hc2]
    (refine ⟨by first | rfl | trivial,?_⟩;(first | assumption | exact St.drew (by assumption) | exact St.drew (St.drew (by assumption)) | exact St.drew (St.drew (St.drew (by assumption)))))
  ·rw [tog,tog,if_pos hc1]
   refine ⟨_,by decide,by decide,rfl,?_⟩
   refine Qag (fun hc2=>?_) (fun hc2=>?_)<;>simp only [b1s] at hc2
   ·rw [if_neg hc2]
    repeat (first | with_reducible refine pt_i ?_ | with_reducible refine gF (k:=?_) | with_reducible refine Qa1 (by omega) (by omega) ?_ | with_reducible refine g0 (k:=?_) | with_reducible refine g1 (k:=?_) | with_reducible refine g2 (k:=?_) | with_reducible refine g3 (k:=?_) | with_reducible refine g4 (k:=?_) | with_reducible refine g5 (k:=?_) | with_reducible refine g6 (k:=?_) | with_reducible refine g7 (k:=?_) | with_reducible refine g8 (k:=?_) | with_reducible refine s0 (k:=fun _ hst=>?_) | with_reducible refine s1 (k:=fun _ hst=>?_) | with_reducible refine s2 (k:=fun _ hst=>?_) | with_reducible refine s3 (k:=fun _ hst=>?_) | with_reducible refine s4 (k:=fun _ hst=>?_) | with_reducible refine s5 (k:=fun _ hst=>?_) | with_reducible refine s6 (k:=fun _ hst=>?_) | with_reducible refine s7 (k:=fun _ hst=>?_) | with_reducible refine s8 (k:=fun _ hst=>?_) | simp only [projS,Qab])
    (refine ⟨by first | rfl | trivial,?_⟩;(first | assumption | exact St.drew (by assumption) | exact St.drew (St.drew (by assumption)) | exact St.drew (St.drew (St.drew (by assumption)))))
   ·rw [if_pos hc2]
    (refine ⟨by first | rfl | trivial,?_⟩;(first | assumption | exact St.drew (by assumption) | exact St.drew (St.drew (by assumption)) | exact St.drew (St.drew (St.drew (by assumption)))))
def Wf (n:Nat) (s:S):Prop:=∀i,i<n→(-1≤s.up i∧s.up i<n)∧(-1≤s.left i∧s.left i<n)∧(-1≤s.right i∧s.right i<n)
def addC (s:S) (x:Nat) (c:Int):S:=
 if c=-1 then s else
  let s1:=s.Qdj x (IntKind.i32.wrap (s.size x+s.size c.toNat))
  let s2:=s1.Qhf x (IntKind.i64.wrap (s.sum x+s.sum c.toNat))
  let s3:=s2.Qb2 x (if s.least c.toNat<s.least x then s.least c.toNat else s.least x)
  s3.Qdk x (if s.most c.toNat>s.most x then s.most c.toNat else s.most x)
def ownS (s:S) (x:Nat):S:=(((s.Qdj x 1).Qhf x (s.value x)).Qb2 x (s.value x)).Qdk x (s.value x)
def pullS (s:S) (x:Int):S:=addC (addC (ownS s x.toNat) x.toNat (s.left x.toNat)) x.toNat (s.right x.toNat)
theorem Qkc {w:World} {F L n:Nat} {s:S} {x:Int} (h:IsF w.heap F L n s) (h0:0≤x) (h1:x<n) (hw:Wf n s) :
  Calls Pg Qar #[.pointer (some ⟨F,0,none⟩),.int .i32 x] w fun e w'=>e=.returned (.tuple #[])∧St w w' F L n (pullS s x):=by
 have hst:=St.start h
 obtain ⟨_,⟨hl0,hl1⟩,hr0,hr1⟩:=hw x.toNat (by omega)
 refine (Qo4 _ _ _ (fun v w'=>v=.tuple #[]∧St w w' F L n (pullS s x)) ?_).mono (by rintro e w' ⟨v,rfl,rfl,k⟩;exact ⟨rfl,k⟩)
 unfold Qk8
 repeat (first | with_reducible refine pt_i ?_ | with_reducible refine gF (k:=?_) | with_reducible refine Qa1 (by omega) (by omega) ?_ | with_reducible refine g0 (k:=?_) | with_reducible refine g1 (k:=?_) | with_reducible refine g2 (k:=?_) | with_reducible refine g3 (k:=?_) | with_reducible refine g4 (k:=?_) | with_reducible refine g5 (k:=?_) | with_reducible refine g6 (k:=?_) | with_reducible refine g7 (k:=?_) | with_reducible refine g8 (k:=?_) | with_reducible refine s0 (k:=fun _ hst=>?_) | with_reducible refine s1 (k:=fun _ hst=>?_) | with_reducible refine s2 (k:=fun _ hst=>?_) | with_reducible refine s3 (k:=fun _ hst=>?_) | with_reducible refine s4 (k:=fun _ hst=>?_) | with_reducible refine s5 (k:=fun _ hst=>?_) | with_reducible refine s6 (k:=fun _ hst=>?_) | with_reducible refine s7 (k:=fun _ hst=>?_) | with_reducible refine s8 (k:=fun _ hst=>?_) | simp only [projS,Qab])
 refine ⟨_,by decide,by decide,rfl,?_⟩
 refine Qag (fun hc1=>?_) (fun hc1=>?_)<;>simp only [b1s] at hc1
 ·refine ⟨_,by decide,by decide,rfl,?_⟩
  refine Qag (fun hc2=>?_) (fun hc2=>?_)<;>simp only [b1s] at hc2
  ·have e:pullS s x=ownS s x.toNat:=by rw [pullS,addC,addC,if_pos hc1,if_pos hc2]
   rw [e];(refine ⟨by first | rfl | trivial,?_⟩;(first | assumption | exact St.drew (by assumption) | exact St.drew (St.drew (by assumption)) | exact St.drew (St.drew (St.drew (by assumption)))))
  ·have e:pullS s x=addC (ownS s x.toNat) x.toNat (s.right x.toNat):=by rw [pullS,addC,addC,if_pos hc1,if_neg hc2,addC,if_neg hc2]
   rw [e,addC,if_neg hc2]
   repeat (first | with_reducible refine pt_i ?_ | with_reducible refine gF (k:=?_) | with_reducible refine Qa1 (by omega) (by omega) ?_ | with_reducible refine g0 (k:=?_) | with_reducible refine g1 (k:=?_) | with_reducible refine g2 (k:=?_) | with_reducible refine g3 (k:=?_) | with_reducible refine g4 (k:=?_) | with_reducible refine g5 (k:=?_) | with_reducible refine g6 (k:=?_) | with_reducible refine g7 (k:=?_) | with_reducible refine g8 (k:=?_) | with_reducible refine s0 (k:=fun _ hst=>?_) | with_reducible refine s1 (k:=fun _ hst=>?_) | with_reducible refine s2 (k:=fun _ hst=>?_) | with_reducible refine s3 (k:=fun _ hst=>?_) | with_reducible refine s4 (k:=fun _ hst=>?_) | with_reducible refine s5 (k:=fun _ hst=>?_) | with_reducible refine s6 (k:=fun _ hst=>?_) | with_reducible refine s7 (k:=fun _ hst=>?_) | with_reducible refine s8 (k:=fun _ hst=>?_) | simp only [projS,Qab])
   (refine ⟨by first | rfl | trivial,?_⟩;simp only [ownS,projS,Qab] at hst ⊢;(first | assumption | exact St.drew (by assumption) | exact St.drew (St.drew (by assumption)) | exact St.drew (St.drew (St.drew (by assumption)))))
 ·repeat (first | with_reducible refine pt_i ?_ | with_reducible refine gF (k:=?_) | with_reducible refine Qa1 (by omega) (by omega) ?_ | with_reducible refine g0 (k:=?_) | with_reducible refine g1 (k:=?_) | with_reducible refine g2 (k:=?_) | with_reducible refine g3 (k:=?_) | with_reducible refine g4 (k:=?_) | with_reducible refine g5 (k:=?_) | with_reducible refine g6 (k:=?_) | with_reducible refine g7 (k:=?_) | with_reducible refine g8 (k:=?_) | with_reducible refine s0 (k:=fun _ hst=>?_) | with_reducible refine s1 (k:=fun _ hst=>?_) | with_reducible refine s2 (k:=fun _ hst=>?_) | with_reducible refine s3 (k:=fun _ hst=>?_) | with_reducible refine s4 (k:=fun _ hst=>?_) | with_reducible refine s5 (k:=fun _ hst=>?_) | with_reducible refine s6 (k:=fun _ hst=>?_) | with_reducible refine s7 (k:=fun _ hst=>?_) | with_reducible refine s8 (k:=fun _ hst=>?_) | simp only [projS,Qab])
  refine ⟨_,by decide,by decide,rfl,?_⟩
  refine Qag (fun hc2=>?_) (fun hc2=>?_)<;>simp only [b1s] at hc2
  ·rw [pullS,addC.eq_1 _ _ (s.right x.toNat),if_pos hc2,addC,if_neg hc1]
   (refine ⟨by first | rfl | trivial,?_⟩;simp only [ownS,projS,Qab] at hst ⊢;(first | assumption | exact St.drew (by assumption) | exact St.drew (St.drew (by assumption)) | exact St.drew (St.drew (St.drew (by assumption)))))
  ·rw [pullS,addC.eq_1 _ _ (s.right x.toNat),if_neg hc2,addC,if_neg hc1]
   repeat (first | with_reducible refine pt_i ?_ | with_reducible refine gF (k:=?_) | with_reducible refine Qa1 (by omega) (by omega) ?_ | with_reducible refine g0 (k:=?_) | with_reducible refine g1 (k:=?_) | with_reducible refine g2 (k:=?_) | with_reducible refine g3 (k:=?_) | with_reducible refine g4 (k:=?_) | with_reducible refine g5 (k:=?_) | with_reducible refine g6 (k:=?_) | with_reducible refine g7 (k:=?_) | with_reducible refine g8 (k:=?_) | with_reducible refine s0 (k:=fun _ hst=>?_) | with_reducible refine s1 (k:=fun _ hst=>?_) | with_reducible refine s2 (k:=fun _ hst=>?_) | with_reducible refine s3 (k:=fun _ hst=>?_) | with_reducible refine s4 (k:=fun _ hst=>?_) | with_reducible refine s5 (k:=fun _ hst=>?_) | with_reducible refine s6 (k:=fun _ hst=>?_) | with_reducible refine s7 (k:=fun _ hst=>?_) | with_reducible refine s8 (k:=fun _ hst=>?_) | simp only [projS,Qab])
   (refine ⟨by first | rfl | trivial,?_⟩;simp only [ownS,projS,Qab] at hst ⊢;(first | assumption | exact St.drew (by assumption) | exact St.drew (St.drew (by assumption)) | exact St.drew (St.drew (St.drew (by assumption)))))
def hangS (s:S) (c x:Int) (left:Bool):S:=
 let s1:=if left then s.Qbe x.toNat c else s.Qa4 x.toNat c
 if c=-1 then s1 else s1.w_up c.toNat x
theorem Qsr {w:World} {F L n:Nat} {s:S} {c x:Int} {left:Bool} (h:IsF w.heap F L n s) (h0:0≤x) (h1:x<n) (hc0:-1≤c) (hc1:c<n) :
  Calls Pg Qay #[.pointer (some ⟨F,0,none⟩),.int .i32 c,.int .i32 x,.bool left] w fun e w'=>e=.returned (.tuple #[])∧St w w' F L n (hangS s c x left):=by
 have hst:=St.start h
 refine (Qo6 _ _ _ _ _ (fun v w'=>v=.tuple #[]∧St w w' F L n (hangS s c x left)) ?_).mono (by rintro e w' ⟨v,rfl,rfl,k⟩;exact ⟨rfl,k⟩)
 unfold Qla
 cases left
 all_goals
  simp only [cond_true,cond_false,hangS]
  repeat (first | with_reducible refine pt_i ?_ | with_reducible refine gF (k:=?_) | with_reducible refine Qa1 (by omega) (by omega) ?_ | with_reducible refine g0 (k:=?_) | with_reducible refine g1 (k:=?_) | with_reducible refine g2 (k:=?_) | with_reducible refine g3 (k:=?_) | with_reducible refine g4 (k:=?_) | with_reducible refine g5 (k:=?_) | with_reducible refine g6 (k:=?_) | with_reducible refine g7 (k:=?_) | with_reducible refine g8 (k:=?_) | with_reducible refine s0 (k:=fun _ hst=>?_) | with_reducible refine s1 (k:=fun _ hst=>?_) | with_reducible refine s2 (k:=fun _ hst=>?_) | with_reducible refine s3 (k:=fun _ hst=>?_) | with_reducible refine s4 (k:=fun _ hst=>?_) | with_reducible refine s5 (k:=fun _ hst=>?_) | with_reducible refine s6 (k:=fun _ hst=>?_) | with_reducible refine s7 (k:=fun _ hst=>?_) | with_reducible refine s8 (k:=fun _ hst=>?_) | simp only [projS,Qab])
  refine Qag (fun hc1=>?_) (fun hc1=>?_)<;>simp only [b1s] at hc1
  ·rw [if_neg hc1]
   repeat (first | with_reducible refine pt_i ?_ | with_reducible refine gF (k:=?_) | with_reducible refine Qa1 (by omega) (by omega) ?_ | with_reducible refine g0 (k:=?_) | with_reducible refine g1 (k:=?_) | with_reducible refine g2 (k:=?_) | with_reducible refine g3 (k:=?_) | with_reducible refine g4 (k:=?_) | with_reducible refine g5 (k:=?_) | with_reducible refine g6 (k:=?_) | with_reducible refine g7 (k:=?_) | with_reducible refine g8 (k:=?_) | with_reducible refine s0 (k:=fun _ hst=>?_) | with_reducible refine s1 (k:=fun _ hst=>?_) | with_reducible refine s2 (k:=fun _ hst=>?_) | with_reducible refine s3 (k:=fun _ hst=>?_) | with_reducible refine s4 (k:=fun _ hst=>?_) | with_reducible refine s5 (k:=fun _ hst=>?_) | with_reducible refine s6 (k:=fun _ hst=>?_) | with_reducible refine s7 (k:=fun _ hst=>?_) | with_reducible refine s8 (k:=fun _ hst=>?_) | simp only [projS,Qab])
   (refine ⟨by first | rfl | trivial,?_⟩;(first | assumption | exact St.drew (by assumption) | exact St.drew (St.drew (by assumption)) | exact St.drew (St.drew (St.drew (by assumption)))))
  ·rw [if_pos hc1]
   (refine ⟨by first | rfl | trivial,?_⟩;(first | assumption | exact St.drew (by assumption) | exact St.drew (St.drew (by assumption)) | exact St.drew (St.drew (St.drew (by assumption)))))
theorem Qgq {n:Nat} {s:S} {c x:Int} {left:Bool} (hw:Wf n s) (h0:0≤x) (h1:x<n) (hc0:-1≤c) (hc1:c<n):Wf n (hangS s c x left):=by
 intro i hi
 have h:=hw i hi
 unfold hangS
 cases left<;>simp only [if_true,Bool.false_eq_true,if_false]<;>split<;>simp [upd]<;>(repeat' split)<;>omega
theorem Qt4 {n:Nat} {s:S} {c:Int} {x:Nat} (hw:Wf n s) (hc0:-1≤c) (hc1:c<n):Wf n (s.w_up x c):=by
 intro i hi
 have h:=hw i hi
 simp [upd];split<;>omega
theorem Qkq (s:S) (x:Int):(pullS s x).up=s.up∧(pullS s x).left=s.left∧(pullS s x).right=s.right∧(pullS s x).turned=s.turned∧(pullS s x).value=s.value:=by
 unfold pullS addC ownS
 (repeat' split)<;>simp
theorem Qng {n:Nat} {s:S} {x:Int} (hw:Wf n s):Wf n (pullS s x):=by
 obtain ⟨a,b,c,_⟩:=Qkq s x
 intro i hi
 rw [a,b,c];exact hw i hi
def rotS (s:S) (x:Int):S:=
 let p:=s.up x.toNat
 let g:=s.up p.toNat
 let left:=s.left p.toNat==x
 let s1:=if left then hangS s (s.right x.toNat) p true else hangS s (s.left x.toNat) p false
 let above:=g != -1&&s1.left g.toNat==p
 let s2:=hangS s1 p x (!left)
 let s3:=s2.w_up x.toNat g
 let s4:=if g=-1 then s3 else hangS s3 x g above
 pullS (pullS s4 p) x
theorem Qnu {w:World} {F L n:Nat} {s:S} {x:Int} (h:IsF w.heap F L n s) (h0:0≤x) (h1:x<n) (hw:Wf n s) (hp:s.up x.toNat≠-1) :
  Calls Pg Qbw #[.pointer (some ⟨F,0,none⟩),.int .i32 x] w fun e w'=>e=.returned (.tuple #[])∧St w w' F L n (rotS s x):=by
 have hst:=St.start h
 obtain ⟨⟨hp0,hp1⟩,⟨hl0,hl1⟩,hr0,hr1⟩:=hw x.toNat (by omega)
 obtain ⟨⟨hg0,hg1⟩,⟨hpl0,hpl1⟩,_⟩:=hw (s.up x.toNat).toNat (by omega)
 have hpp:0≤s.up x.toNat:=by omega
 refine (Qnn _ _ _ (fun v w'=>v=.tuple #[]∧St w w' F L n (rotS s x)) ?_).mono (by rintro e w' ⟨v,rfl,rfl,k⟩;exact ⟨rfl,k⟩)
 unfold Qj2
 repeat (first | with_reducible refine pt_i ?_ | with_reducible refine gF (k:=?_) | with_reducible refine Qa1 (by omega) (by omega) ?_ | with_reducible refine g0 (k:=?_) | with_reducible refine g1 (k:=?_) | with_reducible refine g2 (k:=?_) | with_reducible refine g3 (k:=?_) | with_reducible refine g4 (k:=?_) | with_reducible refine g5 (k:=?_) | with_reducible refine g6 (k:=?_) | with_reducible refine g7 (k:=?_) | with_reducible refine g8 (k:=?_) | with_reducible refine s0 (k:=fun _ hst=>?_) | with_reducible refine s1 (k:=fun _ hst=>?_) | with_reducible refine s2 (k:=fun _ hst=>?_) | with_reducible refine s3 (k:=fun _ hst=>?_) | with_reducible refine s4 (k:=fun _ hst=>?_) | with_reducible refine s5 (k:=fun _ hst=>?_) | with_reducible refine s6 (k:=fun _ hst=>?_) | with_reducible refine s7 (k:=fun _ hst=>?_) | with_reducible refine s8 (k:=fun _ hst=>?_) | simp only [projS,Qab])
 refine Qag (fun hL=>?_) (fun hL=>?_)
 ·repeat (first | with_reducible refine pt_i ?_ | with_reducible refine gF (k:=?_) | with_reducible refine Qa1 (by omega) (by omega) ?_ | with_reducible refine g0 (k:=?_) | with_reducible refine g1 (k:=?_) | with_reducible refine g2 (k:=?_) | with_reducible refine g3 (k:=?_) | with_reducible refine g4 (k:=?_) | with_reducible refine g5 (k:=?_) | with_reducible refine g6 (k:=?_) | with_reducible refine g7 (k:=?_) | with_reducible refine g8 (k:=?_) | with_reducible refine s0 (k:=fun _ hst=>?_) | with_reducible refine s1 (k:=fun _ hst=>?_) | with_reducible refine s2 (k:=fun _ hst=>?_) | with_reducible refine s3 (k:=fun _ hst=>?_) | with_reducible refine s4 (k:=fun _ hst=>?_) | with_reducible refine s5 (k:=fun _ hst=>?_) | with_reducible refine s6 (k:=fun _ hst=>?_) | with_reducible refine s7 (k:=fun _ hst=>?_) | with_reducible refine s8 (k:=fun _ hst=>?_) | simp only [projS,Qab])
  refine (Qsr hst.i hpp hp1 hr0 hr1).mono ?_
  rintro e w' ⟨rfl,hst'⟩;refine ⟨rfl,?_⟩;have hst:=St.trans (by first | assumption | exact St.drew (by assumption) | exact St.drew (St.drew (by assumption)) | exact St.drew (St.drew (St.drew (by assumption)))) hst';clear hst'
  have hw1:=Qgq (left:=true) hw hpp hp1 hr0 hr1
  refine Qag (fun hg=>?_) (fun hg=>?_)<;>simp only [b1s] at hg
  ·repeat (first | with_reducible refine pt_i ?_ | with_reducible refine gF (k:=?_) | with_reducible refine Qa1 (by omega) (by omega) ?_ | with_reducible refine g0 (k:=?_) | with_reducible refine g1 (k:=?_) | with_reducible refine g2 (k:=?_) | with_reducible refine g3 (k:=?_) | with_reducible refine g4 (k:=?_) | with_reducible refine g5 (k:=?_) | with_reducible refine g6 (k:=?_) | with_reducible refine g7 (k:=?_) | with_reducible refine g8 (k:=?_) | with_reducible refine s0 (k:=fun _ hst=>?_) | with_reducible refine s1 (k:=fun _ hst=>?_) | with_reducible refine s2 (k:=fun _ hst=>?_) | with_reducible refine s3 (k:=fun _ hst=>?_) | with_reducible refine s4 (k:=fun _ hst=>?_) | with_reducible refine s5 (k:=fun _ hst=>?_) | with_reducible refine s6 (k:=fun _ hst=>?_) | with_reducible refine s7 (k:=fun _ hst=>?_) | with_reducible refine s8 (k:=fun _ hst=>?_) | simp only [projS,Qab])
   refine (Qsr hst.i h0 h1 hp0 hp1).mono ?_
   rintro e w' ⟨rfl,hst'⟩;refine ⟨rfl,?_⟩;have hst:=St.trans (by first | assumption | exact St.drew (by assumption) | exact St.drew (St.drew (by assumption)) | exact St.drew (St.drew (St.drew (by assumption)))) hst';clear hst'
   have hw2:=Qgq (left:=!(s.left (s.up x.toNat).toNat==x)) hw1 h0 h1 hp0 hp1
   repeat (first | with_reducible refine pt_i ?_ | with_reducible refine gF (k:=?_) | with_reducible refine Qa1 (by omega) (by omega) ?_ | with_reducible refine g0 (k:=?_) | with_reducible refine g1 (k:=?_) | with_reducible refine g2 (k:=?_) | with_reducible refine g3 (k:=?_) | with_reducible refine g4 (k:=?_) | with_reducible refine g5 (k:=?_) | with_reducible refine g6 (k:=?_) | with_reducible refine g7 (k:=?_) | with_reducible refine g8 (k:=?_) | with_reducible refine s0 (k:=fun _ hst=>?_) | with_reducible refine s1 (k:=fun _ hst=>?_) | with_reducible refine s2 (k:=fun _ hst=>?_) | with_reducible refine s3 (k:=fun _ hst=>?_) | with_reducible refine s4 (k:=fun _ hst=>?_) | with_reducible refine s5 (k:=fun _ hst=>?_) | with_reducible refine s6 (k:=fun _ hst=>?_) | with_reducible refine s7 (k:=fun _ hst=>?_) | with_reducible refine s8 (k:=fun _ hst=>?_) | simp only [projS,Qab])
   have hw3:=Qt4 (x:=x.toNat) hw2 hg0 hg1
   refine Qag (fun hg'=>?_) (fun hg'=>?_)<;>simp only [b1s] at hg'
   ·refine (Qsr hst.i (by omega) hg1 (by omega) h1).mono ?_
    rintro e w' ⟨rfl,hst'⟩;refine ⟨rfl,?_⟩;have hst:=St.trans (by first | assumption | exact St.drew (by assumption) | exact St.drew (St.drew (by assumption)) | exact St.drew (St.drew (St.drew (by assumption)))) hst';clear hst'
    have hw4:=Qgq (left:=(hangS s (s.right x.toNat) (s.up x.toNat) true).left (s.up (s.up x.toNat).toNat).toNat==s.up x.toNat) hw3 (by omega:0≤s.up (s.up x.toNat).toNat) hg1 (by omega:-1≤x) h1
    refine (Qkc hst.i hpp hp1 hw4).mono ?_
    rintro e w' ⟨rfl,hst'⟩;refine ⟨rfl,?_⟩;have hst:=St.trans (by first | assumption | exact St.drew (by assumption) | exact St.drew (St.drew (by assumption)) | exact St.drew (St.drew (St.drew (by assumption)))) hst';clear hst'
    refine (Qkc hst.i h0 h1 (Qng hw4)).mono ?_
    rintro e w' ⟨rfl,hst'⟩;refine ⟨rfl,?_⟩;have hst:=St.trans (by first | assumption | exact St.drew (by assumption) | exact St.drew (St.drew (by assumption)) | exact St.drew (St.drew (St.drew (by assumption)))) hst';clear hst'
    have e:rotS s x=pullS (pullS (hangS ((hangS (hangS s (s.right x.toNat) (s.up x.toNat) true) (s.up x.toNat) x (!(s.left (s.up x.toNat).toNat==x))).w_up x.toNat (s.up (s.up x.toNat).toNat)) x (s.up (s.up x.toNat).toNat) ((hangS s (s.right x.toNat) (s.up x.toNat) true).left (s.up (s.up x.toNat).toNat).toNat==s.up x.toNat)) (s.up x.toNat)) x:=by
     have hgb:(s.up (s.up x.toNat).toNat != -1)=true:=by simpa using hg
     simp only [rotS,hL,if_true,if_neg hg,hgb,Bool.true_and]
    rw [e];(refine ⟨by first | rfl | trivial,?_⟩;(first | assumption | exact St.drew (by assumption) | exact St.drew (St.drew (by assumption)) | exact St.drew (St.drew (St.drew (by assumption)))))
   ·exact absurd hg' hg
  ·refine (Qsr hst.i h0 h1 hp0 hp1).mono ?_
   rintro e w' ⟨rfl,hst'⟩;refine ⟨rfl,?_⟩;have hst:=St.trans (by first | assumption | exact St.drew (by assumption) | exact St.drew (St.drew (by assumption)) | exact St.drew (St.drew (St.drew (by assumption)))) hst';clear hst'
   have hw2:=Qgq (left:=!(s.left (s.up x.toNat).toNat==x)) hw1 h0 h1 hp0 hp1
   repeat (first | with_reducible refine pt_i ?_ | with_reducible refine gF (k:=?_) | with_reducible refine Qa1 (by omega) (by omega) ?_ | with_reducible refine g0 (k:=?_) | with_reducible refine g1 (k:=?_) | with_reducible refine g2 (k:=?_) | with_reducible refine g3 (k:=?_) | with_reducible refine g4 (k:=?_) | with_reducible refine g5 (k:=?_) | with_reducible refine g6 (k:=?_) | with_reducible refine g7 (k:=?_) | with_reducible refine g8 (k:=?_) | with_reducible refine s0 (k:=fun _ hst=>?_) | with_reducible refine s1 (k:=fun _ hst=>?_) | with_reducible refine s2 (k:=fun _ hst=>?_) | with_reducible refine s3 (k:=fun _ hst=>?_) | with_reducible refine s4 (k:=fun _ hst=>?_) | with_reducible refine s5 (k:=fun _ hst=>?_) | with_reducible refine s6 (k:=fun _ hst=>?_) | with_reducible refine s7 (k:=fun _ hst=>?_) | with_reducible refine s8 (k:=fun _ hst=>?_) | simp only [projS,Qab])
   have hw3:=Qt4 (x:=x.toNat) hw2 hg0 hg1
   refine Qag (fun hg'=>?_) (fun hg'=>?_)<;>simp only [b1s] at hg'
   ·exact absurd hg hg'
   ·refine (Qkc hst.i hpp hp1 hw3).mono ?_
    rintro e w' ⟨rfl,hst'⟩;refine ⟨rfl,?_⟩;have hst:=St.trans (by first | assumption | exact St.drew (by assumption) | exact St.drew (St.drew (by assumption)) | exact St.drew (St.drew (St.drew (by assumption)))) hst';clear hst'
    refine (Qkc hst.i h0 h1 (Qng hw3)).mono ?_
    rintro e w' ⟨rfl,hst'⟩;refine ⟨rfl,?_⟩;have hst:=St.trans (by first | assumption | exact St.drew (by assumption) | exact St.drew (St.drew (by assumption)) | exact St.drew (St.drew (St.drew (by assumption)))) hst';clear hst'
    have e:rotS s x=pullS (pullS ((hangS (hangS s (s.right x.toNat) (s.up x.toNat) true) (s.up x.toNat) x (!(s.left (s.up x.toNat).toNat==x))).w_up x.toNat (s.up (s.up x.toNat).toNat)) (s.up x.toNat)) x:=by
     simp only [rotS,hL,if_true,if_pos hg]
    rw [e];(refine ⟨by first | rfl | trivial,?_⟩;(first | assumption | exact St.drew (by assumption) | exact St.drew (St.drew (by assumption)) | exact St.drew (St.drew (St.drew (by assumption)))))
 ·repeat (first | with_reducible refine pt_i ?_ | with_reducible refine gF (k:=?_) | with_reducible refine Qa1 (by omega) (by omega) ?_ | with_reducible refine g0 (k:=?_) | with_reducible refine g1 (k:=?_) | with_reducible refine g2 (k:=?_) | with_reducible refine g3 (k:=?_) | with_reducible refine g4 (k:=?_) | with_reducible refine g5 (k:=?_) | with_reducible refine g6 (k:=?_) | with_reducible refine g7 (k:=?_) | with_reducible refine g8 (k:=?_) | with_reducible refine s0 (k:=fun _ hst=>?_) | with_reducible refine s1 (k:=fun _ hst=>?_) | with_reducible refine s2 (k:=fun _ hst=>?_) | with_reducible refine s3 (k:=fun _ hst=>?_) | with_reducible refine s4 (k:=fun _ hst=>?_) | with_reducible refine s5 (k:=fun _ hst=>?_) | with_reducible refine s6 (k:=fun _ hst=>?_) | with_reducible refine s7 (k:=fun _ hst=>?_) | with_reducible refine s8 (k:=fun _ hst=>?_) | simp only [projS,Qab])
  refine (Qsr hst.i hpp hp1 hl0 hl1).mono ?_
  rintro e w' ⟨rfl,hst'⟩;refine ⟨rfl,?_⟩;have hst:=St.trans (by first | assumption | exact St.drew (by assumption) | exact St.drew (St.drew (by assumption)) | exact St.drew (St.drew (St.drew (by assumption)))) hst';clear hst'
  have hw1:=Qgq (left:=false) hw hpp hp1 hl0 hl1
  refine Qag (fun hg=>?_) (fun hg=>?_)<;>simp only [b1s] at hg
  ·repeat (first | with_reducible refine pt_i ?_ | with_reducible refine gF (k:=?_) | with_reducible refine Qa1 (by omega) (by omega) ?_ | with_reducible refine g0 (k:=?_) | with_reducible refine g1 (k:=?_) | with_reducible refine g2 (k:=?_) | with_reducible refine g3 (k:=?_) | with_reducible refine g4 (k:=?_) | with_reducible refine g5 (k:=?_) | with_reducible refine g6 (k:=?_) | with_reducible refine g7 (k:=?_) | with_reducible refine g8 (k:=?_) | with_reducible refine s0 (k:=fun _ hst=>?_) | with_reducible refine s1 (k:=fun _ hst=>?_) | with_reducible refine s2 (k:=fun _ hst=>?_) | with_reducible refine s3 (k:=fun _ hst=>?_) | with_reducible refine s4 (k:=fun _ hst=>?_) | with_reducible refine s5 (k:=fun _ hst=>?_) | with_reducible refine s6 (k:=fun _ hst=>?_) | with_reducible refine s7 (k:=fun _ hst=>?_) | with_reducible refine s8 (k:=fun _ hst=>?_) | simp only [projS,Qab])
   refine (Qsr hst.i h0 h1 hp0 hp1).mono ?_
   rintro e w' ⟨rfl,hst'⟩;refine ⟨rfl,?_⟩;have hst:=St.trans (by first | assumption | exact St.drew (by assumption) | exact St.drew (St.drew (by assumption)) | exact St.drew (St.drew (St.drew (by assumption)))) hst';clear hst'
   have hw2:=Qgq (left:=!(s.left (s.up x.toNat).toNat==x)) hw1 h0 h1 hp0 hp1
   repeat (first | with_reducible refine pt_i ?_ | with_reducible refine gF (k:=?_) | with_reducible refine Qa1 (by omega) (by omega) ?_ | with_reducible refine g0 (k:=?_) | with_reducible refine g1 (k:=?_) | with_reducible refine g2 (k:=?_) | with_reducible refine g3 (k:=?_) | with_reducible refine g4 (k:=?_) | with_reducible refine g5 (k:=?_) | with_reducible refine g6 (k:=?_) | with_reducible refine g7 (k:=?_) | with_reducible refine g8 (k:=?_) | with_reducible refine s0 (k:=fun _ hst=>?_) | with_reducible refine s1 (k:=fun _ hst=>?_) | with_reducible refine s2 (k:=fun _ hst=>?_) | with_reducible refine s3 (k:=fun _ hst=>?_) | with_reducible refine s4 (k:=fun _ hst=>?_) | with_reducible refine s5 (k:=fun _ hst=>?_) | with_reducible refine s6 (k:=fun _ hst=>?_) | with_reducible refine s7 (k:=fun _ hst=>?_) | with_reducible refine s8 (k:=fun _ hst=>?_) | simp only [projS,Qab])
   have hw3:=Qt4 (x:=x.toNat) hw2 hg0 hg1
   refine Qag (fun hg'=>?_) (fun hg'=>?_)<;>simp only [b1s] at hg'
   ·refine (Qsr hst.i (by omega) hg1 (by omega) h1).mono ?_
    rintro e w' ⟨rfl,hst'⟩;refine ⟨rfl,?_⟩;have hst:=St.trans (by first | assumption | exact St.drew (by assumption) | exact St.drew (St.drew (by assumption)) | exact St.drew (St.drew (St.drew (by assumption)))) hst';clear hst'
    have hw4:=Qgq (left:=(hangS s (s.left x.toNat) (s.up x.toNat) false).left (s.up (s.up x.toNat).toNat).toNat==s.up x.toNat) hw3 (by omega:0≤s.up (s.up x.toNat).toNat) hg1 (by omega:-1≤x) h1
    refine (Qkc hst.i hpp hp1 hw4).mono ?_
    rintro e w' ⟨rfl,hst'⟩;refine ⟨rfl,?_⟩;have hst:=St.trans (by first | assumption | exact St.drew (by assumption) | exact St.drew (St.drew (by assumption)) | exact St.drew (St.drew (St.drew (by assumption)))) hst';clear hst'
    refine (Qkc hst.i h0 h1 (Qng hw4)).mono ?_
    rintro e w' ⟨rfl,hst'⟩;refine ⟨rfl,?_⟩;have hst:=St.trans (by first | assumption | exact St.drew (by assumption) | exact St.drew (St.drew (by assumption)) | exact St.drew (St.drew (St.drew (by assumption)))) hst';clear hst'
    have e:rotS s x=pullS (pullS (hangS ((hangS (hangS s (s.left x.toNat) (s.up x.toNat) false) (s.up x.toNat) x (!(s.left (s.up x.toNat).toNat==x))).w_up x.toNat (s.up (s.up x.toNat).toNat)) x (s.up (s.up x.toNat).toNat) ((hangS s (s.left x.toNat) (s.up x.toNat) false).left (s.up (s.up x.toNat).toNat).toNat==s.up x.toNat)) (s.up x.toNat)) x:=by
     have hgb:(s.up (s.up x.toNat).toNat != -1)=true:=by simpa using hg
     simp only [rotS,hL,Bool.false_eq_true,if_false,if_neg hg,hgb,Bool.true_and]
    rw [e];(refine ⟨by first | rfl | trivial,?_⟩;(first | assumption | exact St.drew (by assumption) | exact St.drew (St.drew (by assumption)) | exact St.drew (St.drew (St.drew (by assumption)))))
   ·exact absurd hg' hg
  ·refine (Qsr hst.i h0 h1 hp0 hp1).mono ?_
   rintro e w' ⟨rfl,hst'⟩;refine ⟨rfl,?_⟩;have hst:=St.trans (by first | assumption | exact St.drew (by assumption) | exact St.drew (St.drew (by assumption)) | exact St.drew (St.drew (St.drew (by assumption)))) hst';clear hst'
   have hw2:=Qgq (left:=!(s.left (s.up x.toNat).toNat==x)) hw1 h0 h1 hp0 hp1
   repeat (first | with_reducible refine pt_i ?_ | with_reducible refine gF (k:=?_) | with_reducible refine Qa1 (by omega) (by omega) ?_ | with_reducible refine g0 (k:=?_) | with_reducible refine g1 (k:=?_) | with_reducible refine g2 (k:=?_) | with_reducible refine g3 (k:=?_) | with_reducible refine g4 (k:=?_) | with_reducible refine g5 (k:=?_) | with_reducible refine g6 (k:=?_) | with_reducible refine g7 (k:=?_) | with_reducible refine g8 (k:=?_) | with_reducible refine s0 (k:=fun _ hst=>?_) | with_reducible refine s1 (k:=fun _ hst=>?_) | with_reducible refine s2 (k:=fun _ hst=>?_) | with_reducible refine s3 (k:=fun _ hst=>?_) | with_reducible refine s4 (k:=fun _ hst=>?_) | with_reducible refine s5 (k:=fun _ hst=>?_) | with_reducible refine s6 (k:=fun _ hst=>?_) | with_reducible refine s7 (k:=fun _ hst=>?_) | with_reducible refine s8 (k:=fun _ hst=>?_) | simp only [projS,Qab])
   have hw3:=Qt4 (x:=x.toNat) hw2 hg0 hg1
   refine Qag (fun hg'=>?_) (fun hg'=>?_)<;>simp only [b1s] at hg'
   ·exact absurd hg hg'
   ·refine (Qkc hst.i hpp hp1 hw3).mono ?_
    rintro e w' ⟨rfl,hst'⟩;refine ⟨rfl,?_⟩;have hst:=St.trans (by first | assumption | exact St.drew (by assumption) | exact St.drew (St.drew (by assumption)) | exact St.drew (St.drew (St.drew (by assumption)))) hst';clear hst'
    refine (Qkc hst.i h0 h1 (Qng hw3)).mono ?_
    rintro e w' ⟨rfl,hst'⟩;refine ⟨rfl,?_⟩;have hst:=St.trans (by first | assumption | exact St.drew (by assumption) | exact St.drew (St.drew (by assumption)) | exact St.drew (St.drew (St.drew (by assumption)))) hst';clear hst'
    have e:rotS s x=pullS (pullS ((hangS (hangS s (s.left x.toNat) (s.up x.toNat) false) (s.up x.toNat) x (!(s.left (s.up x.toNat).toNat==x))).w_up x.toNat (s.up (s.up x.toNat).toNat)) (s.up x.toNat)) x:=by
     simp only [rotS,hL,Bool.false_eq_true,if_false,if_pos hg]
    rw [e];(refine ⟨by first | rfl | trivial,?_⟩;(first | assumption | exact St.drew (by assumption) | exact St.drew (St.drew (by assumption)) | exact St.drew (St.drew (St.drew (by assumption)))))
end Seq
end Go.Proofs.YtpmicakdjhoafaaGreatDoor
