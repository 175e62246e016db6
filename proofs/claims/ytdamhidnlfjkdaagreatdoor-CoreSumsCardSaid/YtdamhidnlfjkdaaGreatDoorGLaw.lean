/-
What the laws' own helpers make: an error's number.
Conditions: the package variable of errors is laid out.
-/
import Derived.Test.YtdamhidnlfjkdaaGreatDoorAs
import Derived.Test.YtdamhidnlfjkdaaGreatDoorGNew
import Derived.Laws.Bits64
namespace Go.Proofs.YtdamhidnlfjkdaaGreatDoor
open Go
set_option linter.unusedVariables false
set_option linter.unusedSimpArgs false
namespace Seq
def LaidG (w:World):Prop:=w.cell? ⟨0,0,none⟩=some (.iface T_reflectlite_rtype (.agg #[.pointer (some ⟨1,T_error,none⟩)]))
theorem LaidG.pos {w:World} (h:LaidG w):0<w.heap.size:=by
  rcases Nat.eq_zero_or_pos w.heap.size with h0 | h1
  · unfold LaidG World.cell? at h;simp [h0] at h
  · exact h1
theorem cell_eq {w w':World} {a:Addr} (h:w'.heap[a.block]?=w.heap[a.block]?):w'.cell? a=w.cell? a:=by
  unfold World.cell?;rw [h]
theorem LaidG.chg {w w':World} {S:Nat→Prop} (h:LaidG w) (c:Chg S w w') (hS:¬S 0):LaidG w':=by
  have hp:=h.pos
  unfold LaidG at *
  rw [←h];exact cell_eq (c.block 0 hp hS)
theorem LaidG.alloc {w:World} (h:LaidG w) (o:Obj):LaidG (w.alloc o):=h.chg ((Chg.refl Nobody w).alloc o) (fun h=>h)
end Seq
end Go.Proofs.YtdamhidnlfjkdaaGreatDoor
namespace Go.Proofs.YtdamhidnlfjkdaaGreatDoor
open Go
set_option linter.unusedVariables false
set_option linter.unusedSimpArgs false
namespace Seq
def IA (w:World) (b:Option Addr) (l:Nat) (A:List Int):Prop:=
  A.length=l∧(l=0∨∃g o e cs,b=some ⟨g,o,none⟩∧Row w.heap g e cs∧∀i,i<l→cs[o+i]?=A[i]?.map (Value.int .i64))
section
variable {w w':World} {b:Option Addr} {l c base:Nat} {A:List Int}
theorem IA.keep {S:Nat→Prop} (h:IA w b l A) (k:Chg S w w') (hS:∀g,bk b=some g→¬S g):IA w' b l A:=by
  obtain ⟨h1,h2⟩:=h
  refine ⟨h1,h2.imp id ?_⟩
  rintro ⟨g,o,e,cs,rfl,hr,hc⟩
  exact ⟨g,o,e,cs,rfl,k.row (hS g rfl) hr,hc⟩
theorem IA.nob (h:IA w b l A) (k:Chg Nobody w w'):IA w' b l A:=h.keep k (fun _ _ h=>h)
theorem IA.drew (h:IA w b l A):IA w.drew b l A:=h
theorem IA.alloc (h:IA w b l A) (o:Obj):IA (w.alloc o) b l A:=h.nob ((Chg.refl _ _).alloc o)
theorem IA.of_own {e:TypeId} {xs:List Value} (h:Own w base e 1 b l c xs) (hx:xs=A.map (Value.int .i64)):IA w b l A:=by
  have hl:=h.len
  rw [hx,List.length_map,Nat.mul_one] at hl
  refine ⟨hl,?_⟩
  by_cases h0:l=0
  · exact .inl h0
  · obtain ⟨g,cs,rfl,_,hr,ht,_,_⟩:=h.get (by omega)
    refine .inr ⟨g,0,e,cs,rfl,hr,fun i hi=>?_⟩
    rw [Nat.zero_add,own_cell ht (by omega),hx,List.getElem?_map]
theorem IA.of_row {g:Nat} {e:TypeId} (r:Row w.heap g e (A.map (Value.int .i64))):IA w (some ⟨g,0,none⟩) A.length A:=
  ⟨rfl,.inr ⟨g,0,e,_,rfl,r,fun i hi=>by rw [Nat.zero_add,List.getElem?_map]⟩⟩
theorem IA.rd (h:IA w b l A) {i:Nat} {x:Int} (hx:A[i]?=some x) {K:Int→Prop} (k:K x):ixS b l (i:Int) 1 fun a=>ldI .i64 a w K:=by
  have hi:i<l:=by rw [←h.1];exact (List.getElem?_eq_some_iff.1 hx).1
  rcases h.2 with h0 | ⟨g,o,e,cs,rfl,hr,hc⟩
  · omega
  · refine ixS_i hi (ldI_r hr ?_ k)
    rw [Nat.mul_one,hc i hi,hx];rfl
end
structure LS (w₀ w:World) (F L n:Nat) (v:Nat→Int) (q:List (List Nat)):Prop where
  c:Chg Nobody w₀ w
  hF:w₀.heap.size≤F
  hL:w₀.heap.size≤L
  a:AF w.heap F L n v q
section
variable {w₀ w w':World} {F L n:Nat} {v v':Nat→Int} {q q':List (List Nat)}
theorem LS.step (h:LS w₀ w F L n v q) (k:AS w w' F L n v' q'):LS w₀ w' F L n v' q':=
  ⟨h.c.trans' k.chg (fun i e=>by subst e;exact .inr h.hL),h.hF,h.hL,k.af⟩
theorem LS.nob (h:LS w₀ w F L n v q) (k:Chg Nobody w w'):LS w₀ w' F L n v q:=
  ⟨h.c.trans k,h.hF,h.hL,h.a.keep k (fun h=>h) (fun h=>h)⟩
theorem LS.alloc (h:LS w₀ w F L n v q) (o:Obj):LS w₀ (w.alloc o) F L n v q:=h.nob ((Chg.refl _ _).alloc o)
theorem LS.drew (h:LS w₀ w F L n v q):LS w₀ w.drew F L n v q:=h.nob (Chg.refl _ _).drew
theorem LS.perm (h:LS w₀ w F L n v q) (p:q.Perm q'):LS w₀ w F L n v q':=⟨h.c,h.hF,h.hL,h.a.perm p⟩
theorem LS.g (h:LS w₀ w F L n v q) (k:LaidG w₀):LaidG w:=k.chg h.c (fun h=>h)
end
end Seq
end Go.Proofs.YtdamhidnlfjkdaaGreatDoor
namespace Go.Proofs.YtdamhidnlfjkdaaGreatDoor
open Go
set_option linter.unusedVariables false
set_option linter.unusedSimpArgs false
def CA (w:World) (b:Option Addr) (l sz:Nat) (f:Nat→Nat→Int):Prop:=
  l=0∨∃a,b=some a∧a.block<w.heap.size∧∀i k,i<l→k<sz→w.cell? ((a.add (i*sz)).add k)=some (.int .i64 (f i k))
theorem add_block (a:Addr) (k:Nat):(a.add k).block=a.block:=by unfold Addr.add;split<;>rfl
section
variable {w w':World} {b:Option Addr} {l sz:Nat} {f:Nat→Nat→Int}
theorem CA.keep {S:Nat→Prop} (h:CA w b l sz f) (k:Chg S w w') (hS:∀g,g<w.heap.size→¬S g):CA w' b l sz f:=by
  refine h.imp id ?_
  rintro ⟨a,rfl,ha,hc⟩
  refine ⟨a,rfl,Nat.lt_of_lt_of_le ha k.size,fun i j hi hj=>?_⟩
  rw [←hc i j hi hj]
  refine Seq.cell_eq ?_
  rw [add_block,add_block]
  exact k.block _ ha (hS _ ha)
theorem CA.nob (h:CA w b l sz f) (k:Chg Nobody w w'):CA w' b l sz f:=h.keep k (fun _ _ h=>h)
theorem CA.drew (h:CA w b l sz f):CA w.drew b l sz f:=h
theorem CA.rd (h:CA w b l sz f) {i k:Nat} (hi:i<l) (hk:k<sz) {K:Int→Prop} (kk:K (f i k)):ixS b l (i:Int) sz fun a=>ldI .i64 (a.add k) w K:=by
  rcases h with h0 | ⟨a,rfl,ha,hc⟩
  · omega
  · refine ⟨a,rfl,by omega,by omega,f i k,?_,kk⟩
    have:(i:Int).toNat=i:=by omega
    rw [this];exact hc i k hi hk
end
theorem idx_ex (x:Int) {m:Nat} (h0:0<m) (hm:m≤4611686018427387904):(IntKind.wrap .u64 (m:Int))≠0∧∃a:Nat,a<m∧IntKind.wrap .i64 (Int.tmod (IntKind.wrap .u64 x) (IntKind.wrap .u64 (m:Int)))=a:=by
  have e1:IntKind.wrap .u64 (m:Int)=m:=by rw [IntKind.wrap_u64];omega
  rw [e1]
  refine ⟨by omega,?_⟩
  have hx:0≤IntKind.wrap .u64 x:=by rw [IntKind.wrap_u64];omega
  generalize IntKind.wrap .u64 x=y at hx
  have h1:=Int.tmod_nonneg (m:Int) hx
  have h2:=Int.tmod_lt_of_pos y (show (0:Int)<m by omega)
  refine ⟨(Int.tmod y m).toNat,by omega,?_⟩
  rw [IntKind.wrap_i64];omega
namespace Seq
section
variable {w₀ w w':World} {F L n:Nat} {v v':Nat→Int} {q q':List (List Nat)} {a b x:Nat}
theorem AF.find2 (k:AF w.heap F L n v q) (hx:a<n) (hy:b<n):(∃A q',q.Perm (A::q')∧a∈A∧b∈A)∨∃A B q',q.Perm (A::B::q')∧a∈A∧b∈B∧b∉A:=by
  obtain ⟨A,q',hp,ha⟩:=k.find hx
  by_cases hb:b∈A
  · exact .inl ⟨A,q',hp,ha,hb⟩
  · obtain ⟨_,_,_,_,_,hall⟩:=(k.perm hp).nodup
    obtain ⟨B,hB,hbB⟩:=hall b hy
    rcases List.mem_cons.1 hB with rfl | hB
    · exact absurd hbB hb
    · obtain ⟨q'',hq⟩:∃q'',q'.Perm (B::q''):=⟨_,List.perm_cons_erase hB⟩
      exact .inr ⟨A,B,q'',hp.trans (hq.cons A),ha,hbB,hb⟩
end
end Seq
end Go.Proofs.YtdamhidnlfjkdaaGreatDoor
namespace Go.Proofs.YtdamhidnlfjkdaaGreatDoor
open Go
set_option linter.unusedVariables false
set_option linter.unusedSimpArgs false
theorem ixA_i {b o l sz:Nat} {i:Int} {K:Addr→Prop} (h:0≤i∧i<(l:Int)) (k:K ⟨b,o+i.toNat*sz,none⟩):ixA ⟨b,o,none⟩ l i sz K:=⟨h.1,h.2,by rw [add_mk];exact k⟩
theorem size_ex (x c k:Int) (h0:0<k) (hc:0≤c) (hk:c≤1000∧k≤1000):∃m:Nat,c≤m∧m<c+k∧IntKind.wrap .i64 (c+IntKind.wrap .i64 (Int.tmod (IntKind.wrap .u64 x) k))=m:=by
  have hx:0≤IntKind.wrap .u64 x:=by rw [IntKind.wrap_u64];omega
  generalize IntKind.wrap .u64 x=y at hx
  have h1:=Int.tmod_nonneg k hx
  have h2:=Int.tmod_lt_of_pos y h0
  refine ⟨(c+Int.tmod y k).toNat,by omega,by omega,?_⟩
  rw [IntKind.wrap_i64,IntKind.wrap_i64];omega
namespace Seq
abbrev ints (A:List Nat):List Int:=A.map fun x:Nat=>(x:Int)
section
variable {w₀ w w':World} {F L n:Nat} {v v':Nat→Int} {q q':List (List Nat)} {A:List Nat} {a b x:Nat}
theorem IA.as {b:Option Addr} {l:Nat} {X:List Int} (h:IA w b l X) (hb:∀k,bk b=some k→L<k) (k:AS w w' F L n v q):IA w' b l X:=
  h.keep k.chg (fun g hg (e:g=L)=>by have:=hb g hg;omega)
end
end Seq
end Go.Proofs.YtdamhidnlfjkdaaGreatDoor
namespace Go.Proofs.YtdamhidnlfjkdaaGreatDoor
open Go
set_option linter.unusedVariables false
set_option linter.unusedSimpArgs false
namespace Seq
section
variable {w₀ w:World} {F L m:Nat} {v:Nat→Int} {q:List (List Nat)} {c:Int}
end
end Seq
end Go.Proofs.YtdamhidnlfjkdaaGreatDoor
namespace Go.Proofs.YtdamhidnlfjkdaaGreatDoor
open Go
set_option linter.unusedVariables false
set_option linter.unusedSimpArgs false
namespace Seq
end Seq
end Go.Proofs.YtdamhidnlfjkdaaGreatDoor
namespace Go.Proofs.YtdamhidnlfjkdaaGreatDoor
open Go Go.RowKit
set_option linter.unusedVariables false
set_option linter.unusedSimpArgs false
namespace Seq
end Seq
end Go.Proofs.YtdamhidnlfjkdaaGreatDoor
namespace Go.Proofs.YtdamhidnlfjkdaaGreatDoor
open Go
set_option linter.unusedVariables false
set_option linter.unusedSimpArgs false
namespace Seq
end Seq
end Go.Proofs.YtdamhidnlfjkdaaGreatDoor
namespace Go.Proofs.YtdamhidnlfjkdaaGreatDoor
open Go
set_option linter.unusedVariables false
set_option linter.unusedSimpArgs false
namespace Seq
section
variable {w₀ w w':World} {F L n B:Nat} {v v':Nat→Int} {q q':List (List Nat)} {A:List Nat} {x:Nat}
theorem LS.put (h:LS w₀ w F L n v q) (c:Chg (·=B) w w') (hB:w₀.heap.size≤B) (hF:F≠B) (hL:L≠B):LS w₀ w' F L n v q:=
  ⟨h.c.trans' c (fun i e=>by subst e;exact .inr hB),h.hF,h.hL,h.a.keep c hF hL⟩
end
def Tc (q:List (List Nat)) (x j:Nat):Prop:=∃A∈q,j∈A∧∃y∈A,y<x
open Classical in
noncomputable def seenC (q:List (List Nat)) (x:Nat) (l:List Nat) (j:Nat):Int:=if Tc q x j∨j∈l then 1 else 0
theorem seenC_congr {q:List (List Nat)} {x y j:Nat} {l l':List Nat} (h:(Tc q x j∨j∈l)↔(Tc q y j∨j∈l')):seenC q x l j=seenC q y l' j:=by
  unfold seenC
  by_cases hp:Tc q x j∨j∈l
  · rw [if_pos hp,if_pos (h.1 hp)]
  · rw [if_neg hp,if_neg (fun hq=>hp (h.2 hq))]
theorem flat_uniq {q:List (List Nat)} (h:q.flatten.Nodup) {A B:List Nat} {x:Nat} (hA:A∈q) (hB:B∈q) (h1:x∈A) (h2:x∈B):A=B:=by
  induction q with
  | nil=>cases hA
  | cons C q ih=>
    simp only [List.flatten_cons,List.nodup_append] at h
    obtain ⟨_,hq,hd⟩:=h
    rcases List.mem_cons.1 hA with rfl | hA'
    · rcases List.mem_cons.1 hB with rfl | hB
      · rfl
      · exact absurd rfl (hd x h1 x (List.mem_flatten.2 ⟨B,hB,h2⟩))
    · rcases List.mem_cons.1 hB with rfl | hB
      · exact absurd rfl (hd x h2 x (List.mem_flatten.2 ⟨A,hA',h1⟩))
      · exact ih hq hA' hB
section
variable {q:List (List Nat)} {A:List Nat} {x k u:Nat}
theorem Tc.skip (h:q.flatten.Nodup) (hT:Tc q x x):seenC q (x+1) []=seenC q x []:=by
  funext j
  have:Tc q (x+1) j↔Tc q x j:=by
    constructor
    · rintro ⟨A,hA,hj,y,hy,hlt⟩
      by_cases e:y<x
      · exact ⟨A,hA,hj,y,hy,e⟩
      · have e:y=x:=by omega
        subst e
        obtain ⟨A',hA',hx',y',hy',hlt'⟩:=hT
        have:=flat_uniq h hA hA' hy hx'
        subst this
        exact ⟨A,hA,hj,y',hy',hlt'⟩
    · rintro ⟨A,hA,hj,y,hy,hlt⟩
      exact ⟨A,hA,hj,y,hy,by omega⟩
  exact seenC_congr (or_congr this Iff.rfl)
theorem Tc.zero (h:q.flatten.Nodup) (hA:A∈q) (hx:x∈A) (hT:¬Tc q x x) (hn:A.Nodup) (hu:A[k]?=some u):seenC q x (A.take k) u=0:=by
  unfold seenC
  rw [if_neg]
  rintro (⟨A',hA',hj,y,hy,hlt⟩ | hj)
  · have:=flat_uniq h hA hA' (List.mem_of_getElem? hu) hj
    subst this
    exact hT ⟨A,hA,hx,y,hy,hlt⟩
  · have hk:=(List.getElem?_eq_some_iff.1 hu)
    have hd:u∈A.drop k:=by
      rw [List.drop_eq_getElem_cons hk.1,hk.2];simp
    rw [←List.take_append_drop k A,List.nodup_append] at hn
    exact hn.2.2 u hj u hd rfl
theorem Tc.put (hu:A[k]?=some u):upd (seenC q x (A.take k)) u 1=seenC q x (A.take (k+1)):=by
  funext j
  rw [List.take_add_one,hu]
  unfold upd
  by_cases e:j=u
  · subst e;rw [if_pos rfl];unfold seenC;rw [if_pos (.inr (by simp))]
  · rw [if_neg e]
    have:(Tc q x j∨j∈A.take k)↔(Tc q x j∨j∈A.take k++(some u).toList):=by simp [e]
    exact seenC_congr this
end
end Seq
end Go.Proofs.YtdamhidnlfjkdaaGreatDoor
