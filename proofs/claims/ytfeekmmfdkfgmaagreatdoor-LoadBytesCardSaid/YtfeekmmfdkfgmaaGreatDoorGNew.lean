/-
The exported call of layer 4 that lists a sequence.
Conditions: those that each theorem states.
-/
import Derived.Test.YtfeekmmfdkfgmaaGreatDoorGAsk
import Derived.Test.YtfeekmmfdkfgmaaGreatDoorGMem
set_option linter.unusedVariables false
set_option linter.unusedSimpArgs false
namespace Go.Proofs.YtfeekmmfdkfgmaaGreatDoor
open Go
namespace Seq
def pre:List Fr→List Nat
 | []=>[]
 | f::c=>if f.d then pre c else pre c++(f.sib.seq++[f.p])
def post:List Fr→List Nat
 | []=>[]
 | f::c=>if f.d then f.p::f.sib.seq++post c else post c
section
variable {w:World} {F L n:Nat} {v:Nat→Int} {q:List (List Nat)} {A B:List Nat} {a b x:Nat}
abbrev ivs (A:List Nat):List Value:=A.map fun x:Nat=>.int .i64 x
end
def mkS' (i:Nat):S:=⟨fun j=>if j<i then -1 else 0,fun j=>if j<i then -1 else 0,fun j=>if j<i then -1 else 0,fun _=>false,fun j=>if j<i then 1 else 0,fun _=>0,fun _=>0,fun _=>0,fun _=>0⟩
theorem Q00 (i:Nat) (a b:Int):upd (fun j=>if j<i then a else b) i a=fun j=>if j<i+1 then a else b:=by
 funext j
 unfold upd
 by_cases h:j=i
 ·subst h;rw [if_pos rfl,if_pos (by omega)]
 ·rw [if_neg h]
  show (if j<i then a else b)=_
  by_cases h2:j<i
  ·rw [if_pos h2,if_pos (by omega)]
  ·rw [if_neg h2,if_neg (by omega)]
theorem Q94 {α:Type} (i:Nat) (a:α):upd (fun _=>a) i a=fun _=>a:=by
 funext j;unfold upd;split<;>rfl
theorem Qas (z:List Value) (n:Nat):(Qby z.toArray n).toList=recs (fun _=>z) n:=by
 unfold Qby recs
 induction n with
 | zero=>rfl
 | succ n ih=>
  rw [List.range_succ,List.flatMap_append,←ih,List.replicate_succ']
  simp
def ones (n:Nat):List (List Nat):=(List.range n).map fun x=>[x]
theorem Zgx {n:Nat} (hn:n≤8388608):Fo n (mkS' n) (fun _=>0) ((List.range n).map fun x=>.node .nil x false .nil):=by
 refine ⟨fun _=>⟨by omega,by omega⟩,?_,?_,hn⟩
 ·intro t ht
  obtain ⟨x,hx,rfl⟩:=List.mem_map.1 ht
  have hx:=List.mem_range.1 hx
  refine ⟨⟨?_,trivial,trivial⟩,by intro h;cases h⟩
  refine ⟨?_,?_,?_,?_,?_,⟨?_,?_,?_,?_⟩⟩
  all_goals simp [mkS',hx,T.rt,T.ls,vsum,IsMn,IsMx,w64]
  all_goals rfl
 ·have:∀l:List Nat,(l.map fun x=>T.node .nil x false .nil).flatMap T.ls=l:=by
   intro l;induction l with
   | nil=>rfl
   | cons x l ih=>rw [List.map_cons,List.flatMap_cons,ih];rfl
  rw [this]
theorem Ze6 {w:World} {n:Nat} (h1:1≤n) (hn:n≤8388608) :
  Calls Pg 244 #[.int .i64 n] w fun e w'=>∃F L,e=.returned (.tuple #[.pointer (some ⟨F,0,none⟩),errV 0])∧Chg Qaa w w'∧w.heap.size≤F∧w.heap.size≤L∧AF w'.heap F L n (fun _=>0) (ones n):=by
 refine (Qx5 _).go ?_
 unfold Qym nr
 refine ⟨fun _ w'=>w'=w,?_,?_⟩
 ·refine Qac (fun h1=>?_) (fun h1=>?_)<;>simp only [b1s] at h1
  ·omega
  ·refine Qac (fun h2=>?_) (fun h2=>?_)<;>simp only [b1s] at h2
   ·omega
   ·rfl
 rintro _ w2 rfl
 have hnn:Int.toNat (n:Int)=n:=by omega
 refine ⟨by omega,by omega,by omega,?_⟩
 rw [hnn]
 refine Qal fun hL=>Qal fun hF=>?_
 have hL:=hL.alloc (.cells #[.slice (some ⟨w2.heap.size,0,none⟩) n n] 380)
 rw [Qas] at hL
 have hch:Chg Qaa w2 ((w2.alloc (.cells (Qby #[.int .i32 0,.int .i32 0,.int .i32 0,.bool false,.int .i32 0,.int .i64 0,.int .i64 0,.int .i64 0,.int .i64 0] n) 377)).alloc (.cells #[.slice (some ⟨w2.heap.size,0,none⟩) n n] 380)):=((Chg.refl _ _).alloc _).alloc _
 have hs1:(w2.alloc (.cells (Qby #[.int .i32 0,.int .i32 0,.int .i32 0,.bool false,.int .i32 0,.int .i64 0,.int .i64 0,.int .i64 0,.int .i64 0] n) 377)).heap.size=w2.heap.size+1:=by show (w2.heap.push _).size=_;simp
 rw [hs1] at hF ⊢
 generalize (w2.alloc (.cells (Qby #[.int .i32 0,.int .i32 0,.int .i32 0,.bool false,.int .i32 0,.int .i64 0,.int .i64 0,.int .i64 0,.int .i64 0] n) 377)).alloc (.cells #[.slice (some ⟨w2.heap.size,0,none⟩) n n] 380)=w6 at *
 have hF0:w2.heap.size+1<w6.heap.size:=hF.lt
 have hi:IsF w6.heap (w2.heap.size+1) w2.heap.size n (mkS' 0):=⟨hF,by
  have:encS (mkS' 0)=fun _=>[.int .i32 0,.int .i32 0,.int .i32 0,.bool false,.int .i32 0,.int .i64 0,.int .i64 0,.int .i64 0,.int .i64 0]:=by
   funext i;simp [encS,mkS']
  rw [this];exact hL,by omega⟩
 generalize hFF:w2.heap.size+1=F at *
 generalize hLL:w2.heap.size=L at *
 have hst:=St.start hi
 repeat (first | (with_reducible first | refine pt_i ?_ | refine gF ?_ | refine Qa1 (by omega) (by omega) ?_ | refine g0 ?_ | refine g1 ?_ | refine g2 ?_ | refine g3 ?_ | refine g4 ?_ | refine g5 ?_ | refine g6 ?_ | refine g7 ?_ | refine g8 ?_ | refine s0 fun _ hst=>?_ | refine s1 fun _ hst=>?_ | refine s2 fun _ hst=>?_ | refine s3 fun _ hst=>?_ | refine s4 fun _ hst=>?_ | refine s5 fun _ hst=>?_ | refine s6 fun _ hst=>?_ | refine s7 fun _ hst=>?_ | refine s8 fun _ hst=>?_) | simp only [projS,Qab])
 let J:Nat→List Value→World→Prop:=fun j vs w'=>∃i:Nat,vs=[.int .i64 i]∧i≤n∧St w6 w' F L n (mkS' i)∧j=n-i
 refine ⟨LI J,LM J,⟨_,0,rfl,by omega,hst,rfl⟩,?_⟩
 intro _ i w11 hJ
 obtain ⟨i,hvs,hin,hst,hj⟩:=hJ.at
 simp only [vj] at hvs
 subst hvs
 refine Qac (fun hc=>?_) (fun hc=>?_)<;>simp only [b1s] at hc
 ·have hii:(i:Int).toNat=i:=by omega
  repeat (first | (with_reducible first | refine pt_i ?_ | refine gF ?_ | refine Qa1 (by omega) (by omega) ?_ | refine g0 ?_ | refine g1 ?_ | refine g2 ?_ | refine g3 ?_ | refine g4 ?_ | refine g5 ?_ | refine g6 ?_ | refine g7 ?_ | refine g8 ?_ | refine s0 fun _ hst=>?_ | refine s1 fun _ hst=>?_ | refine s2 fun _ hst=>?_ | refine s3 fun _ hst=>?_ | refine s4 fun _ hst=>?_ | refine s5 fun _ hst=>?_ | refine s6 fun _ hst=>?_ | refine s7 fun _ hst=>?_ | refine s8 fun _ hst=>?_) | simp only [projS,Qab])
  rw [wrap64_in (by omega) (by omega)]
  refine LI.again (k:=n-(i+1)) ⟨i+1,rfl,by omega,?_,rfl⟩ (by rw [hj];omega)
  rw [hii] at hst
  have e:mkS' (i+1)=((((((((((mkS' i).w_up i (-1)).Qa5 i (-1)).Qa3 i (-1)).Qa9 i false).Qc1 i 1).Qbk i 0).Qgy i 0).Qbz i 0).Qc2 i 0):=by
   unfold mkS' S.w_up S.Qa5 S.Qa3 S.Qa9 S.Qc1 S.Qbk S.Qgy S.Qbz S.Qc2
   simp only [Q00,Q94]
  rw [e]
  exact hst
 ·have hin:i=n:=by omega
  subst hin
  refine ⟨F,L,rfl,hch.trans' hst.c (fun k hk=>.inr (by omega)),by omega,by omega,_,_,hst.i,Zgx hn,?_⟩
  unfold ones
  rw [List.map_map]
  exact List.Perm.refl _
end Seq
end Go.Proofs.YtfeekmmfdkfgmaaGreatDoor
