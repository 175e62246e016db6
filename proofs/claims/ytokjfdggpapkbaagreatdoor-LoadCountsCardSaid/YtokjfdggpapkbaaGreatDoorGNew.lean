/-
The exported call of layer 4 that lists a sequence.
Conditions: those that each theorem states.
-/
import Derived.Test.YtokjfdggpapkbaaGreatDoorGAsk
import Derived.Test.YtokjfdggpapkbaaGreatDoorGMem
set_option linter.unusedVariables false
set_option linter.unusedSimpArgs false
namespace Go.Proofs.YtokjfdggpapkbaaGreatDoor
open Go
namespace Seq
def pre:List Fr→List Nat
 | []=>[]
 | f::c=>if f.d then pre c else pre c++(f.sib.seq++[f.p])
def post:List Fr→List Nat
 | []=>[]
 | f::c=>if f.d then f.p::f.sib.seq++post c else post c
section
variable {w:World} {F L n:Nat} {v:Nat→Int} {q:List (List Nat)} {A B:List Nat} {a b x:Nat}
abbrev ivs (A:List Nat):List Value:=A.map fun x:Nat=>.int .i64 x
end
end Seq
end Go.Proofs.YtokjfdggpapkbaaGreatDoor
namespace Go.Proofs.YtokjfdggpapkbaaGreatDoor
open Go
namespace Seq
def mkS' (i:Nat):S:=⟨fun j=>if j<i then -1 else 0,fun j=>if j<i then -1 else 0,fun j=>if j<i then -1 else 0,fun _=>false,fun j=>if j<i then 1 else 0,fun _=>0,fun _=>0,fun _=>0,fun _=>0⟩
theorem Qwu (i:Nat) (a b:Int):upd (fun j=>if j<i then a else b) i a=fun j=>if j<i+1 then a else b:=by
 funext j
 unfold upd
 by_cases h:j=i
 ·subst h;rw [if_pos rfl,if_pos (by omega)]
 ·rw [if_neg h]
  show (if j<i then a else b)=_
  by_cases h2:j<i
  ·rw [if_pos h2,if_pos (by omega)]
  ·rw [if_neg h2,if_neg (by omega)]
theorem upd_all {α:Type} (i:Nat) (a:α):upd (fun _=>a) i a=fun _=>a:=by
 funext j;unfold upd;split<;>rfl
theorem Qap (z:List Value) (n:Nat):(Qbi z.toArray n).toList=recs (fun _=>z) n:=by
 unfold Qbi recs
 induction n with
 | zero=>rfl
 | succ n ih=>
  rw [List.range_succ,List.flatMap_append,←ih,List.replicate_succ']
  simp
def ones (n:Nat):List (List Nat):=(List.range n).map fun x=>[x]
theorem fo_new {n:Nat} (hn:n≤8388608):Fo n (mkS' n) (fun _=>0) ((List.range n).map fun x=>.node .nil x false .nil):=by
 refine ⟨fun _=>⟨by omega,by omega⟩,?_,?_,hn⟩
 ·intro t ht
  obtain ⟨x,hx,rfl⟩:=List.mem_map.1 ht
  have hx:=List.mem_range.1 hx
  refine ⟨⟨?_,trivial,trivial⟩,by intro h;cases h⟩
  refine ⟨?_,?_,?_,?_,?_,⟨?_,?_,?_,?_⟩⟩
  all_goals simp [mkS',hx,T.rt,T.ls,vsum,IsMn,IsMx,w64]
  all_goals rfl
 ·have:∀l:List Nat,(l.map fun x=>T.node .nil x false .nil).flatMap T.ls=l:=by
   intro l;induction l with
   | nil=>rfl
   | cons x l ih=>rw [List.map_cons,List.flatMap_cons,ih];rfl
  rw [this]
theorem c_New {w:World} {n:Nat} (h1:1≤n) (hn:n≤8388608) :
  Calls Pg Qu9 #[.int .i64 n] w fun e w'=>∃F L,e=.returned (.tuple #[.pointer (some ⟨F,0,none⟩),errV 0])∧Chg Qaa w w'∧w.heap.size≤F∧w.heap.size≤L∧AF w'.heap F L n (fun _=>0) (ones n):=by
 refine (Qui _ _ (fun v' w'=>∃F L,v'=.tuple #[.pointer (some ⟨F,0,none⟩),errV 0]∧Chg Qaa w w'∧w.heap.size≤F∧w.heap.size≤L∧AF w'.heap F L n (fun _=>0) (ones n)) ?_).mono (by rintro e w' ⟨v,rfl,F,L,rfl,k⟩;exact ⟨F,L,rfl,k⟩)
 unfold Qu0 nr
 refine ⟨fun _ w'=>w'=w,?_,?_⟩
 ·refine Qad (fun h1=>?_) (fun h1=>?_)<;>simp only [b1s] at h1
  ·omega
  ·refine Qad (fun h2=>?_) (fun h2=>?_)<;>simp only [b1s] at h2
   ·omega
   ·rfl
 rintro _ w2 rfl
 have hnn:Int.toNat (n:Int)=n:=by omega
 refine ⟨by omega,by omega,by omega,?_⟩
 rw [hnn]
 refine Qak fun hL=>Qak fun hF=>?_
 have hL:=hL.alloc (.cells #[.slice (some ⟨w2.heap.size,0,none⟩) n n] Qm0)
 rw [Qap] at hL
 have hch:Chg Qaa w2 ((w2.alloc (.cells (Qbi #[.int .i32 0,.int .i32 0,.int .i32 0,.bool false,.int .i32 0,.int .i64 0,.int .i64 0,.int .i64 0,.int .i64 0] n) Qff)).alloc (.cells #[.slice (some ⟨w2.heap.size,0,none⟩) n n] Qm0)):=((Chg.refl _ _).alloc _).alloc _
 have hs1:(w2.alloc (.cells (Qbi #[.int .i32 0,.int .i32 0,.int .i32 0,.bool false,.int .i32 0,.int .i64 0,.int .i64 0,.int .i64 0,.int .i64 0] n) Qff)).heap.size=w2.heap.size+1:=by show (w2.heap.push _).size=_;simp
 rw [hs1] at hF ⊢
 generalize (w2.alloc (.cells (Qbi #[.int .i32 0,.int .i32 0,.int .i32 0,.bool false,.int .i32 0,.int .i64 0,.int .i64 0,.int .i64 0,.int .i64 0] n) Qff)).alloc (.cells #[.slice (some ⟨w2.heap.size,0,none⟩) n n] Qm0)=w6 at *
 have hF0:w2.heap.size+1<w6.heap.size:=hF.lt
 have hi:IsF w6.heap (w2.heap.size+1) w2.heap.size n (mkS' 0):=⟨hF,by
  have:encS (mkS' 0)=fun _=>[.int .i32 0,.int .i32 0,.int .i32 0,.bool false,.int .i32 0,.int .i64 0,.int .i64 0,.int .i64 0,.int .i64 0]:=by
   funext i;simp [encS,mkS']
  rw [this];exact hL,by omega⟩
 generalize hFF:w2.heap.size+1=F at *
 generalize hLL:w2.heap.size=L at *
 have hst:=St.start hi
 repeat (first | with_reducible refine pt_i ?_ | with_reducible refine gF (k:=?_) | with_reducible refine Qay (by omega) (by omega) ?_ | with_reducible refine g0 (k:=?_) | with_reducible refine g1 (k:=?_) | with_reducible refine g2 (k:=?_) | with_reducible refine g3 (k:=?_) | with_reducible refine g4 (k:=?_) | with_reducible refine g5 (k:=?_) | with_reducible refine g6 (k:=?_) | with_reducible refine g7 (k:=?_) | with_reducible refine g8 (k:=?_) | with_reducible refine s0 (k:=fun _ hst=>?_) | with_reducible refine s1 (k:=fun _ hst=>?_) | with_reducible refine s2 (k:=fun _ hst=>?_) | with_reducible refine s3 (k:=fun _ hst=>?_) | with_reducible refine s4 (k:=fun _ hst=>?_) | with_reducible refine s5 (k:=fun _ hst=>?_) | with_reducible refine s6 (k:=fun _ hst=>?_) | with_reducible refine s7 (k:=fun _ hst=>?_) | with_reducible refine s8 (k:=fun _ hst=>?_) | simp only [projS,Qab])
 let J:Nat→List Value→World→Prop:=fun j vs w'=>∃i:Nat,vs=[.int .i64 i]∧i≤n∧St w6 w' F L n (mkS' i)∧j=n-i
 refine ⟨LI J,LM J,⟨_,0,rfl,by omega,hst,rfl⟩,?_⟩
 intro _ i w11 hJ
 obtain ⟨i,hvs,hin,hst,hj⟩:=hJ.at
 simp only [List.cons.injEq,Value.int.injEq,and_true,true_and] at hvs
 subst hvs
 refine Qad (fun hc=>?_) (fun hc=>?_)<;>simp only [b1s] at hc
 ·have hii:(i:Int).toNat=i:=by omega
  repeat (first | with_reducible refine pt_i ?_ | with_reducible refine gF (k:=?_) | with_reducible refine Qay (by omega) (by omega) ?_ | with_reducible refine g0 (k:=?_) | with_reducible refine g1 (k:=?_) | with_reducible refine g2 (k:=?_) | with_reducible refine g3 (k:=?_) | with_reducible refine g4 (k:=?_) | with_reducible refine g5 (k:=?_) | with_reducible refine g6 (k:=?_) | with_reducible refine g7 (k:=?_) | with_reducible refine g8 (k:=?_) | with_reducible refine s0 (k:=fun _ hst=>?_) | with_reducible refine s1 (k:=fun _ hst=>?_) | with_reducible refine s2 (k:=fun _ hst=>?_) | with_reducible refine s3 (k:=fun _ hst=>?_) | with_reducible refine s4 (k:=fun _ hst=>?_) | with_reducible refine s5 (k:=fun _ hst=>?_) | with_reducible refine s6 (k:=fun _ hst=>?_) | with_reducible refine s7 (k:=fun _ hst=>?_) | with_reducible refine s8 (k:=fun _ hst=>?_) | simp only [projS,Qab])
  rw [wrap64_in (by omega) (by omega)]
  refine LI.again (k:=n-(i+1)) ⟨i+1,rfl,by omega,?_,rfl⟩ (by rw [hj];omega)
  rw [hii] at hst
  have e:mkS' (i+1)=((((((((((mkS' i).w_up i (-1)).Qa2 i (-1)).Qaz i (-1)).Qa8 i false).Qcn i 1).Qbd i 0).Qf6 i 0).Qbq i 0).Qco i 0):=by
   unfold mkS' S.w_up S.Qa2 S.Qaz S.Qa8 S.Qcn S.Qbd S.Qf6 S.Qbq S.Qco
   simp only [Qwu,upd_all]
  rw [e]
  exact hst
 ·have hin:i=n:=by omega
  subst hin
  refine ⟨F,L,rfl,hch.trans' hst.c (fun k hk=>.inr (by omega)),by omega,by omega,_,_,hst.i,fo_new hn,?_⟩
  unfold ones
  rw [List.map_map]
  exact List.Perm.refl _
end Seq
end Go.Proofs.YtokjfdggpapkbaaGreatDoor
namespace Go.Proofs.YtokjfdggpapkbaaGreatDoor
open Go
namespace Seq
end Seq
end Go.Proofs.YtokjfdggpapkbaaGreatDoor
