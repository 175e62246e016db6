/-
What the laws' own helpers make: an error's number.
Conditions: the package variable of errors is laid out.
-/
import Derived.Test.YtpmicakdjhoafaaGreatDoorAs
import Derived.Test.YtpmicakdjhoafaaGreatDoorGNew
import Derived.Laws.Bits64
set_option linter.unusedVariables false
set_option linter.unusedSimpArgs false
namespace Go.Proofs.YtpmicakdjhoafaaGreatDoor
open Go
namespace Seq
def LaidG (w:World):Prop:=w.cell? ⟨0,0,none⟩=some (.iface Qhq (.agg #[.pointer (some ⟨1,Qdp,none⟩)]))
theorem LaidG.pos {w:World} (h:LaidG w):0<w.heap.size:=by
 rcases Nat.eq_zero_or_pos w.heap.size with h0 | h1
 ·unfold LaidG World.cell? at h;simp [h0] at h
 ·exact h1
theorem Qys {w w':World} {a:Addr} (h:w'.heap[a.block]?=w.heap[a.block]?):w'.cell? a=w.cell? a:=by
 unfold World.cell?;rw [h]
theorem LaidG.chg {w w':World} {S:Nat→Prop} (h:LaidG w) (c:Chg S w w') (hS:¬S 0):LaidG w':=by
 have hp:=h.pos
 unfold LaidG at *
 rw [←h];exact Qys (c.block 0 hp hS)
theorem LaidG.alloc {w:World} (h:LaidG w) (o:Obj):LaidG (w.alloc o):=h.chg ((Chg.refl Qac w).alloc o) (fun h=>h)
end Seq
end Go.Proofs.YtpmicakdjhoafaaGreatDoor
namespace Go.Proofs.YtpmicakdjhoafaaGreatDoor
open Go
namespace Seq
def IA (w:World) (b:Option Addr) (l:Nat) (A:List Int):Prop:=
 A.length=l∧(l=0∨∃g o e cs,b=some ⟨g,o,none⟩∧Row w.heap g e cs∧∀i,i<l→cs[o+i]?=A[i]?.map (Value.int .i64))
section
variable {w w':World} {b:Option Addr} {l c base:Nat} {A:List Int}
theorem IA.keep {S:Nat→Prop} (h:IA w b l A) (k:Chg S w w') (hS:∀g,bk b=some g→¬S g):IA w' b l A:=by
 obtain ⟨h1,h2⟩:=h
 refine ⟨h1,h2.imp id ?_⟩
 rintro ⟨g,o,e,cs,rfl,hr,hc⟩
 exact ⟨g,o,e,cs,rfl,k.row (hS g rfl) hr,hc⟩
theorem IA.nob (h:IA w b l A) (k:Chg Qac w w'):IA w' b l A:=h.keep k (fun _ _ h=>h)
theorem IA.drew (h:IA w b l A):IA w.drew b l A:=h
theorem IA.alloc (h:IA w b l A) (o:Obj):IA (w.alloc o) b l A:=h.nob ((Chg.refl _ _).alloc o)
theorem IA.Qj9 {e:TypeId} {xs:List Value} (h:Own w base e 1 b l c xs) (hx:xs=A.map (Value.int .i64)):IA w b l A:=by
 have hl:=h.len
 rw [hx,List.length_map,Nat.mul_one] at hl
 refine ⟨hl,?_⟩
 by_cases h0:l=0
 ·exact .inl h0
 ·obtain ⟨g,cs,rfl,_,hr,ht,_,_⟩:=h.get (by omega)
  refine .inr ⟨g,0,e,cs,rfl,hr,fun i hi=>?_⟩
  rw [Nat.zero_add,Qr6 ht (by omega),hx,List.getElem?_map]
theorem IA.rd (h:IA w b l A) {i:Nat} {x:Int} (hx:A[i]?=some x) {K:Int→Prop} (k:K x):ixS b l (i:Int) 1 fun a=>ldI .i64 a w K:=by
 have hi:i<l:=by rw [←h.1];exact (List.getElem?_eq_some_iff.1 hx).1
 rcases h.2 with h0 | ⟨g,o,e,cs,rfl,hr,hc⟩
 ·omega
 ·refine Qb3 hi (Qaj hr ?_ k)
  rw [Nat.mul_one,hc i hi,hx];rfl
end
section
variable {w₀ w w':World} {F L n:Nat} {v v':Nat→Int} {q q':List (List Nat)}
end
end Seq
end Go.Proofs.YtpmicakdjhoafaaGreatDoor
namespace Go.Proofs.YtpmicakdjhoafaaGreatDoor
open Go
theorem Qm9 (a:Addr) (k:Nat):(a.add k).block=a.block:=by unfold Addr.add;split<;>rfl
section
variable {w w':World} {b:Option Addr} {l sz:Nat} {f:Nat→Nat→Int}
end
theorem idx_ex (x:Int) {m:Nat} (h0:0<m) (hm:m≤4611686018427387904):(IntKind.wrap .u64 (m:Int))≠0∧∃a:Nat,a<m∧IntKind.wrap .i64 (Int.tmod (IntKind.wrap .u64 x) (IntKind.wrap .u64 (m:Int)))=a:=by
 have e1:IntKind.wrap .u64 (m:Int)=m:=by rw [IntKind.wrap_u64];omega
 rw [e1]
 refine ⟨by omega,?_⟩
 have hx:0≤IntKind.wrap .u64 x:=by rw [IntKind.wrap_u64];omega
 generalize IntKind.wrap .u64 x=y at hx
 have h1:=Int.tmod_nonneg (m:Int) hx
 have h2:=Int.tmod_lt_of_pos y (show (0:Int)<m by omega)
 refine ⟨(Int.tmod y m).toNat,by omega,?_⟩
 rw [IntKind.wrap_i64];omega
namespace Seq
section
variable {w₀ w w':World} {F L n:Nat} {v v':Nat→Int} {q q':List (List Nat)} {a b x:Nat}
theorem AF.find2 (k:AF w.heap F L n v q) (hx:a<n) (hy:b<n):(∃A q',q.Perm (A::q')∧a∈A∧b∈A)∨∃A B q',q.Perm (A::B::q')∧a∈A∧b∈B∧b∉A:=by
 obtain ⟨A,q',hp,ha⟩:=k.find hx
 by_cases hb:b∈A
 ·exact .inl ⟨A,q',hp,ha,hb⟩
 ·obtain ⟨_,_,_,_,_,hall⟩:=(k.perm hp).nodup
  obtain ⟨B,hB,hbB⟩:=hall b hy
  rcases List.mem_cons.1 hB with rfl | hB
  ·exact absurd hbB hb
  ·obtain ⟨q'',hq⟩:∃q'',q'.Perm (B::q''):=⟨_,List.perm_cons_erase hB⟩
   exact .inr ⟨A,B,q'',hp.trans (hq.cons A),ha,hbB,hb⟩
end
end Seq
end Go.Proofs.YtpmicakdjhoafaaGreatDoor
namespace Go.Proofs.YtpmicakdjhoafaaGreatDoor
open Go
theorem Qhj {b o l sz:Nat} {i:Int} {K:Addr→Prop} (h:0≤i∧i<(l:Int)) (k:K ⟨b,o+i.toNat*sz,none⟩):ixA ⟨b,o,none⟩ l i sz K:=⟨h.1,h.2,by rw [Qaf];exact k⟩
theorem size_ex (x c k:Int) (h0:0<k) (hc:0≤c) (hk:c≤1000∧k≤1000):∃m:Nat,c≤m∧m<c+k∧IntKind.wrap .i64 (c+IntKind.wrap .i64 (Int.tmod (IntKind.wrap .u64 x) k))=m:=by
 have hx:0≤IntKind.wrap .u64 x:=by rw [IntKind.wrap_u64];omega
 generalize IntKind.wrap .u64 x=y at hx
 have h1:=Int.tmod_nonneg k hx
 have h2:=Int.tmod_lt_of_pos y h0
 refine ⟨(c+Int.tmod y k).toNat,by omega,by omega,?_⟩
 rw [IntKind.wrap_i64,IntKind.wrap_i64];omega
namespace Seq
abbrev ints (A:List Nat):List Int:=A.map fun x:Nat=>(x:Int)
section
variable {w₀ w w':World} {F L n:Nat} {v v':Nat→Int} {q q':List (List Nat)} {A:List Nat} {a b x:Nat}
end
end Seq
end Go.Proofs.YtpmicakdjhoafaaGreatDoor
namespace Go.Proofs.YtpmicakdjhoafaaGreatDoor
open Go
namespace Seq
section
variable {w₀ w:World} {F L m:Nat} {v:Nat→Int} {q:List (List Nat)} {c:Int}
end
end Seq
end Go.Proofs.YtpmicakdjhoafaaGreatDoor
namespace Go.Proofs.YtpmicakdjhoafaaGreatDoor
open Go
namespace Seq
end Seq
end Go.Proofs.YtpmicakdjhoafaaGreatDoor
namespace Go.Proofs.YtpmicakdjhoafaaGreatDoor
open Go Go.RowKit
namespace Seq
theorem Qyj {P:Program} {w:World} {base:Nat} {t e:TypeId} {by_:Nat} {b sb:Option Addr} {l c sl sc:Nat} {xs:List Value} {A:List Int} (T:ET P t e 1 by_) (h:Own w base e 1 b l c xs) {ty:TypeId}
  (hs:IA w sb sl A) (hsl:0<sl) (hb:base≤w.heap.size) (hn:(l+sl)*by_≤140737488355328) (hm:l+sl≤9223372036854775807) :
  ∃b' c' w',(Builtin.append_ #[t,t] ty #[.slice b l c,.slice sb sl sc]).run P w=.ok (.slice b' (l+sl) c') w'∧Own w' base e 1 b' (l+sl) c' (xs++A.map (Value.int .i64))∧Chg (fun k=>bk b=some k) w w'∧(bk b'=bk b∨bk b'=some w.heap.size):=by
 obtain ⟨i,z,hi,hz,hsz,hby,hzs⟩:=T.info
 rcases hs.2 with h0 | ⟨g,o,e',cs,rfl,hr,hc⟩
 ·omega
 have hA:=hs.1
 obtain ⟨v',w',hr',ho,hg,_,hw⟩:=run_append_own_at w base t ty e i z 1 by_ T.und hi hz hsz hby hzs T.pos (.slice b l c) l xs h ⟨g,o,none⟩ sl sc (A.map (Value.int .i64)) (by simp [hA])
  (fun j u hu=>by
   have hj:j<sl:=by have:=(List.getElem?_eq_some_iff.1 hu).1;simpa [hA] using this
   rw [Qaf,hr.cell,hc j hj,←List.getElem?_map];exact hu) (fun u hu=>by obtain ⟨x,_,rfl⟩:=List.mem_map.1 hu;rfl) (by unfold maxLen;omega) hn hb
 have hv:∃b' c',v'=.slice b' (l+sl) c':=by
  rcases ho.2 with ⟨hv,hn⟩ | ⟨g,cap,cur,hv,_⟩
  ·omega
  ·exact ⟨_,_,hv⟩
 obtain ⟨b',c',rfl⟩:=hv
 rw [Qdc,Qdc] at hw
 refine ⟨b',c',w',hr',ho,⟨hg.os,hg.tape,hg.output,hg.size,fun k hk hS=>hg.block k hk ?_⟩,hw⟩
 rw [Qdc];exact fun e=>hS e.symm
end Seq
end Go.Proofs.YtpmicakdjhoafaaGreatDoor
namespace Go.Proofs.YtpmicakdjhoafaaGreatDoor
open Go
namespace Seq
end Seq
end Go.Proofs.YtpmicakdjhoafaaGreatDoor
namespace Go.Proofs.YtpmicakdjhoafaaGreatDoor
open Go
namespace Seq
section
variable {w₀ w w':World} {F L n B:Nat} {v v':Nat→Int} {q q':List (List Nat)} {A:List Nat} {x:Nat}
end
open Classical in
section
variable {q:List (List Nat)} {A:List Nat} {x k u:Nat}
end
end Seq
end Go.Proofs.YtpmicakdjhoafaaGreatDoor
