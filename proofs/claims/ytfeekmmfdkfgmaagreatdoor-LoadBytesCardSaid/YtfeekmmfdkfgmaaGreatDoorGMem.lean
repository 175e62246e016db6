/-
Memory: blocks that are known whole, rows of records, and what a call has left alone.
Conditions: none; every theorem here is over any program.
-/
import Derived.Test.YtfeekmmfdkfgmaaGreatDoorGLex
import Derived.Maps.AppendAt
import Derived.Deep.Upon
set_option linter.unusedVariables false
set_option linter.unusedSimpArgs false
namespace Go.Proofs.YtfeekmmfdkfgmaaGreatDoor
open Go Go.RowKit
def Row (h:Array Obj) (b:Nat) (e:TypeId) (cs:List Value):Prop:=h[b]?=some (.cells cs.toArray e (0,0))
theorem Qad (b o m:Nat):(Addr.mk b o none).add m=⟨b,o+m,none⟩:=by
 unfold Addr.add;split
 ·subst_vars;rfl
 ·rfl
theorem Row.lt {h:Array Obj} {b:Nat} {e:TypeId} {cs:List Value} (r:Row h b e cs):b<h.size:=by
 rcases Nat.lt_or_ge b h.size with k | k
 ·exact k
 ·unfold Row at r;rw [Array.getElem?_eq_none k] at r;cases r
theorem Row.cell {w:World} {b:Nat} {e:TypeId} {cs:List Value} (r:Row w.heap b e cs) (o:Nat):w.cell? ⟨b,o,none⟩=cs[o]?:=by
 unfold World.cell?;unfold Row at r;simp [r]
theorem Row.frozen {w:World} {b:Nat} {e:TypeId} {cs:List Value} (r:Row w.heap b e cs) (o:Nat):w.frozen? ⟨b,o,none⟩=false:=by
 unfold World.frozen?;unfold Row at r;simp [r]
theorem Row.set {w:World} {b:Nat} {e:TypeId} {cs:List Value} (r:Row w.heap b e cs) (o:Nat) (v:Value):Row (w.setCell ⟨b,o,none⟩ v).heap b e (cs.set o v):=by
 unfold Row at *
 simp only [World.setCell,Array.getElem?_modify,r,if_true,Option.map_some]
 simp
theorem Row.Qdk {w:World} {b:Nat} {e:TypeId} {cs:List Value} (r:Row w.heap b e cs) (a:Addr) (v:Value) (h:a.block≠b):Row (w.setCell a v).heap b e cs:=by
 unfold Row at *
 simp only [World.setCell,Array.getElem?_modify]
 rw [if_neg h];exact r
theorem Row.alloc {w:World} {b:Nat} {e:TypeId} {cs:List Value} (r:Row w.heap b e cs) (o:Obj):Row (w.alloc o).heap b e cs:=by
 have:=r.lt
 unfold Row at *
 show (w.heap.push o)[b]?=_
 rw [Array.getElem?_push,if_neg (by omega)];exact r
theorem Row.new (w:World) (cs:Array Value) (e:TypeId):Row (w.alloc (.cells cs e)).heap w.heap.size e cs.toList:=by
 unfold Row
 show (w.heap.push _)[w.heap.size]?=_
 simp
theorem Row.inj {h:Array Obj} {b:Nat} {e e':TypeId} {cs cs':List Value} (r:Row h b e cs) (r':Row h b e' cs'):cs=cs'∧e=e':=by
 unfold Row at *;rw [r] at r';simp at r';exact r'
structure Chg (S:Nat→Prop) (w w':World):Prop where
 os:w'.os=w.os
 tape:w'.tape=w.tape
 output:w'.output=w.output
 size:w.heap.size≤w'.heap.size
 block:∀k,k<w.heap.size→¬S k→w'.heap[k]?=w.heap[k]?
abbrev Qaa:Nat→Prop:=fun _=>False
theorem Chg.refl (S:Nat→Prop) (w:World):Chg S w w:=⟨rfl,rfl,rfl,Nat.le_refl _,fun _ _ _=>rfl⟩
theorem Chg.trans {S:Nat→Prop} {a b c:World} (h:Chg S a b) (k:Chg S b c):Chg S a c:=
 ⟨k.os.trans h.os,k.tape.trans h.tape,k.output.trans h.output,Nat.le_trans h.size k.size,fun i hi hS=>(k.block i (Nat.lt_of_lt_of_le hi h.size) hS).trans (h.block i hi hS)⟩
theorem Chg.mono {S T:Nat→Prop} {a b:World} (h:Chg S a b) (hST:∀k,k<a.heap.size→S k→T k):Chg T a b:=
 ⟨h.os,h.tape,h.output,h.size,fun k hk hT=>h.block k hk (fun hS=>hT (hST k hk hS))⟩
theorem Chg.weak {S:Nat→Prop} {a b:World} (h:Chg Qaa a b):Chg S a b:=h.mono (fun _ _ h=>h.elim)
theorem Chg.trans' {S T:Nat→Prop} {a b c:World} (h:Chg S a b) (k:Chg T b c) (hT:∀i,T i→S i∨a.heap.size≤i):Chg S a c:=
 ⟨k.os.trans h.os,k.tape.trans h.tape,k.output.trans h.output,Nat.le_trans h.size k.size,fun i hi hS=>
  (k.block i (Nat.lt_of_lt_of_le hi h.size) (fun ht=>(hT i ht).elim hS (fun hh=>by omega))).trans (h.block i hi hS)⟩
theorem Chg.drew {S:Nat→Prop} {a w:World} (h:Chg S a w):Chg S a w.drew:=⟨h.os,h.tape,h.output,h.size,h.block⟩
theorem Chg.alloc {S:Nat→Prop} {a w:World} (h:Chg S a w) (o:Obj):Chg S a (w.alloc o):=
 ⟨h.os,h.tape,h.output,Nat.le_trans h.size (by show w.heap.size≤(w.heap.push o).size;simp),fun k hk hS=>by
  show (w.heap.push o)[k]?=_
  have:=h.size
  rw [Array.getElem?_push,if_neg (by omega)];exact h.block k hk hS⟩
theorem Chg.setCell {S:Nat→Prop} {a w:World} (h:Chg S a w) (p:Addr) (v:Value) (hp:S p.block∨a.heap.size≤p.block):Chg S a (w.setCell p v):=
 ⟨h.os,h.tape,h.output,Nat.le_trans h.size (by simp [World.setCell]),fun k hk hS=>by
  simp only [World.setCell,Array.getElem?_modify]
  rw [if_neg (fun e=>by subst e;rcases hp with hp | hp;exact hS hp;omega)];exact h.block k hk hS⟩
theorem Chg.row {S:Nat→Prop} {a w:World} {b:Nat} {e:TypeId} {cs:List Value} (h:Chg S a w) (hS:¬S b) (r:Row a.heap b e cs):Row w.heap b e cs:=by
 have:=h.block b r.lt hS
 unfold Row at *;rw [this];exact r
theorem Chg.below {a w:World} (h:Chg Qaa a w):Below a.heap.size a w:=⟨h.os,h.tape,h.output,h.size,fun k hk=>h.block k hk (fun h=>h)⟩
theorem rti {X:Value} {K:World→Prop}:∀e w',(∃v,e=Ending.returned v∧(v=X∧K w'))→e=.returned X∧K w':=fun e w' ⟨v,h1,h2,k⟩=>⟨by rw [h1,h2],k⟩
theorem vj:(∀{a b:Value} {l m:List Value},(a::l=b::m)=(a=b∧l=m))∧(∀{k k':IntKind} {x y:Int},(Value.int k x=Value.int k' y)=(k=k'∧x=y))∧(∀p:Prop,(p∧True)=p)∧(∀p:Prop,(True∧p)=p):=⟨fun {_ _ _ _}=>List.cons.injEq ..,fun {_ _ _ _}=>Value.int.injEq ..,fun _=>by simp,fun _=>by simp⟩
theorem vk:(∀{a b:Value} {l m:List Value},(a::l=b::m)=(a=b∧l=m))∧(∀{k k':IntKind} {x y:Int},(Value.int k x=Value.int k' y)=(k=k'∧x=y))∧(∀{a b:Option Addr} {l c l' c':Nat},(Value.slice a l c=Value.slice b l' c')=(a=b∧l=l'∧c=c'))∧(∀p:Prop,(p∧True)=p)∧(∀p:Prop,(True∧p)=p):=⟨fun {_ _ _ _}=>List.cons.injEq ..,fun {_ _ _ _}=>Value.int.injEq ..,fun {_ _ _ _ _ _}=>Value.slice.injEq ..,fun _=>by simp,fun _=>by simp⟩
section
variable {w:World}
theorem pt_i {a:Addr} {K:Addr→Prop} (h:K a):pt (some a) K:=h
theorem Qac {c:Bool} {A B:Prop} (h:c=true→A) (k:c=false→B):bif c then A else B:=by
 cases c
 ·exact k rfl
 ·exact h rfl
theorem Qat {b o l i sz:Nat} {K:Addr→Prop} (h:i<l) (k:K ⟨b,o+i*sz,none⟩):ixS (some ⟨b,o,none⟩) l (i:Int) sz K:=
 ⟨_,rfl,by omega,by omega,by rw [Qad];simpa using k⟩
theorem Qwi {b o l sz:Nat} {i:Int} {K:Addr→Prop} (h0:0≤i) (h:i<l) (k:K ⟨b,o+i.toNat*sz,none⟩):ixS (some ⟨b,o,none⟩) l i sz K:=
 ⟨_,rfl,h0,h,by rw [Qad];exact k⟩
theorem Qaf {k:IntKind} {b o:Nat} {e:TypeId} {cs:List Value} {n:Int} {K:Int→Prop} (r:Row w.heap b e cs) (h:cs[o]?=some (.int k n)) (kk:K n):ldI k ⟨b,o,none⟩ w K:=⟨n,by rw [r.cell];exact h,kk⟩
theorem Qqt {b o:Nat} {e:TypeId} {cs:List Value} {n:Bool} {K:Bool→Prop} (r:Row w.heap b e cs) (h:cs[o]?=some (.bool n)) (kk:K n):ldB ⟨b,o,none⟩ w K:=⟨n,by rw [r.cell];exact h,kk⟩
theorem Qav {b o:Nat} {e:TypeId} {cs:List Value} {n:Option Addr} {K:Option Addr→Prop} (r:Row w.heap b e cs) (h:cs[o]?=some (.pointer n)) (kk:K n):ldP ⟨b,o,none⟩ w K:=⟨n,by rw [r.cell];exact h,kk⟩
theorem Qai {b o:Nat} {e:TypeId} {cs:List Value} {x:Option Addr} {l c:Nat} {K:Option Addr→Nat→Nat→Prop} (r:Row w.heap b e cs) (h:cs[o]?=some (.slice x l c)) (kk:K x l c):ldS ⟨b,o,none⟩ w K:=⟨x,l,c,by rw [r.cell];exact h,kk⟩
theorem Zm1 {b o:Nat} {e:TypeId} {cs:List Value} {n:Value} {K:Value→Prop} (r:Row w.heap b e cs) (h:cs[o]?=some n) (kk:K n):ldV ⟨b,o,none⟩ w K:=⟨n,by rw [r.cell];exact h,kk⟩
theorem Qdw {b o:Nat} {e:TypeId} {cs:List Value} {n:ByteArray} {K:ByteArray→Prop} (r:Row w.heap b e cs) (h:cs[o]?=some (.string n)) (kk:K n):ldT ⟨b,o,none⟩ w K:=⟨n,by rw [r.cell];exact h,kk⟩
theorem Qbg {b o:Nat} {e:TypeId} {cs:List Value} {v:Value} {K:World→Prop} (r:Row w.heap b e cs) (h:o<cs.length) (hv:oneC v=true)
  (kk:Row (w.setCell ⟨b,o,none⟩ v).heap b e (cs.set o v)→K (w.setCell ⟨b,o,none⟩ v)):sto ⟨b,o,none⟩ v w K:=
 ⟨hv,⟨_,by rw [r.cell];exact List.getElem?_eq_getElem h⟩,r.frozen o,kk (r.set o v)⟩
theorem Qal {cs:Array Value} {e:TypeId} {K:Addr→World→Prop} (kk:Row (w.alloc (.cells cs e)).heap w.heap.size e cs.toList→K ⟨w.heap.size,0,none⟩ (w.alloc (.cells cs e))):alo cs e w K:=kk (Row.new w cs e)
end
section
theorem b1s:(∀{α:Type} [BEq α] [LawfulBEq α] {a b:α},(a != b)=true↔a≠b)∧(∀{α:Type} [BEq α] [LawfulBEq α] {a b:α},(a != b)=false↔a=b)∧(∀{α:Type} [BEq α] [LawfulBEq α] {a b:α},(a==b)=true↔a=b)∧
  (∀{α:Type} [BEq α] [LawfulBEq α] {a b:α},(a==b)=false↔¬a=b)∧(∀{p:Prop} [Decidable p],decide p=true↔p)∧(∀{p:Prop} [Decidable p],decide p=false↔¬p)∧(∀{b:Bool},(!b)=true↔b=false)∧(∀{b:Bool},(!b)=false↔b=true)∧(∀{b:Bool},(¬b=true)↔b=false)∧(∀{α:Type} {a b:α},(a≠b)↔¬a=b):=
 ⟨bne_iff_ne,bne_eq_false_iff_eq,beq_iff_eq,beq_eq_false_iff_ne,by simp,by simp,by simp,by simp,by simp,Iff.rfl⟩
def upd {α:Type} (s:Nat→α) (i:Nat) (x:α):Nat→α:=fun j=>if j=i then x else s j
theorem Qab {α:Type} (s:Nat→α) (i:Nat) (x:α):upd s i x i=x:=by simp [upd]
theorem Qag {α:Type} (s:Nat→α) {i j:Nat} (x:α) (h:j≠i):upd s i x j=s j:=by simp [upd,h]
theorem Qhh {α:Type} (s:Nat→α) (i:Nat) (a b:α):upd (upd s i a) i b=upd s i b:=by
 funext j;unfold upd;split<;>rfl
theorem Qi8 {α:Type} (s:Nat→α) (i:Nat):upd s i (s i)=s:=by
 funext j;unfold upd;split
 ·subst_vars;rfl
 ·rfl
def recs (enc:Nat→List Value) (n:Nat):List Value:=(List.range n).flatMap enc
theorem Qd6 (enc:Nat→List Value) (n:Nat):recs enc (n+1)=recs enc n++enc n:=by
 unfold recs;rw [List.range_succ,List.flatMap_append];simp
theorem Qbb {f g:Nat→List Value} {n:Nat} (h:∀i,i<n→f i=g i):recs f n=recs g n:=by
 induction n with
 | zero=>rfl
 | succ n ih=>rw [Qd6,Qd6,ih (fun i hi=>h i (by omega)),h n (by omega)]
variable (enc:Nat→List Value) {sz:Nat} (hsz:∀x,(enc x).length=sz)
include hsz
theorem Qah (n:Nat):(recs enc n).length=n*sz:=by
 induction n with
 | zero=>simp [recs]
 | succ n ih=>rw [Qd6,List.length_append,ih,hsz,Nat.succ_mul]
theorem Qdb {n i k:Nat} (hi:i<n) (hk:k<sz):(recs enc n)[i*sz+k]?=(enc i)[k]?:=by
 induction n with
 | zero=>omega
 | succ n ih=>
  rw [Qd6]
  by_cases h:i<n
  ·have hlt:i*sz+k<(recs enc n).length:=by
    rw [Qah enc hsz]
    calc i*sz+k<i*sz+sz:=by omega
     _=(i+1)*sz:=by rw [Nat.succ_mul]
     _≤n*sz:=Nat.mul_le_mul_right _ h
   rw [List.getElem?_append_left hlt,ih h]
  ·obtain rfl:i=n:=by omega
   rw [List.getElem?_append_right (by rw [Qah enc hsz];omega),Qah enc hsz]
   congr 1;omega
theorem Qca {g:Nat→List Value} {n i k:Nat} {v:Value} (hi:i<n) (hk:k<sz) (hg:∀j,j≠i→g j=enc j) (hx:g i=(enc i).set k v):(recs enc n).set (i*sz+k) v=recs g n:=by
 induction n with
 | zero=>omega
 | succ n ih=>
  rw [Qd6,Qd6]
  by_cases h:i<n
  ·have hlt:i*sz+k<(recs enc n).length:=by
    rw [Qah enc hsz]
    calc i*sz+k<i*sz+sz:=by omega
     _=(i+1)*sz:=by rw [Nat.succ_mul]
     _≤n*sz:=Nat.mul_le_mul_right _ h
   rw [List.set_append_left _ _ hlt,ih h,hg n (by omega)]
  ·obtain rfl:i=n:=by omega
   rw [List.set_append_right _ _ (by rw [Qah enc hsz];omega),Qah enc hsz,hx]
   have e:i*sz+k-i*sz=k:=by omega
   rw [e,Qbb (f:=enc) (g:=g) (fun j hj=>(hg j (by omega)).symm)]
end
theorem Qla {p:Nat→Prop}:∀k,p k→∃m,p m∧∀j,p j→m≤j:=by
 intro k
 induction k using Nat.strongRecOn with
 | _ k ih=>
  intro hk
  by_cases h:∃j,j<k∧p j
  ·obtain ⟨j,hj,hp⟩:=h;exact ih j hj hp
  ·exact ⟨k,hk,fun j hj=>by rcases Nat.lt_or_ge j k with h' | h';exact (h ⟨j,h',hj⟩).elim;exact h'⟩
noncomputable def lst (p:Nat→Prop):Nat:=Classical.epsilon fun m=>p m∧∀j,p j→m≤j
theorem Q0q {p:Nat→Prop} {k:Nat} (h:p k):p (lst p)∧lst p≤k:=by
 have:=Classical.epsilon_spec (Qla k h)
 exact ⟨this.1,this.2 k h⟩
def LI (J:Nat→List Value→World→Prop) (vs:List Value) (w:World):Prop:=∃k,J k vs w
noncomputable def LM (J:Nat→List Value→World→Prop) (vs:List Value) (w:World):Nat:=lst fun k=>J k vs w
theorem LI.at {J:Nat→List Value→World→Prop} {vs:List Value} {w:World} (h:LI J vs w):J (LM J vs w) vs w:=(Q0q (p:=fun k=>J k vs w) h.choose_spec).1
theorem LI.again {J:Nat→List Value→World→Prop} {vs vs':List Value} {w w':World} {k:Nat} (h:J k vs' w') (hk:k<LM J vs w):LI J vs' w'∧LM J vs' w' < LM J vs w:=
 ⟨⟨k,h⟩,Nat.lt_of_le_of_lt (Q0q (p:=fun k=>J k vs' w') h).2 hk⟩
structure ET (P:Program) (t e:TypeId) (sz by_:Nat):Prop where
 und:P.underlying t=some (.slice e)
 info:∃i z,P.info? e=some i∧i.zero=some z∧i.size=sz∧i.bytes=by_∧z.cells.size=sz
 pos:0<sz
def etB (P:Program) (e:TypeId) (sz by_:Nat):Bool:=
 match P.info? e with
 | some i=>match i.zero with
  | some z=>Nat.beq i.size sz&&Nat.beq i.bytes by_&&Nat.beq z.cells.size sz&&Nat.blt 0 sz
  | none=>false
 | none=>false
theorem ET.of {P:Program} {t e:TypeId} {sz by_:Nat} (hu:P.underlying t=some (.slice e)) (hb:etB P e sz by_=true):ET P t e sz by_:=by
 unfold etB at hb
 split at hb
 ·rename_i i hi
  split at hb
  ·rename_i z hz
   simp only [Bool.and_eq_true,Nat.beq_eq,Nat.blt_eq] at hb
   exact ⟨hu,⟨i,z,hi,hz,hb.1.1.1,hb.1.1.2,hb.1.2⟩,hb.2⟩
  ·cases hb
 ·cases hb
def Own (w:World) (base:Nat) (e:TypeId) (sz:Nat) (b:Option Addr) (l c:Nat) (xs:List Value):Prop:=w.ownsRow base e sz (.slice b l c) l xs
section
variable {P:Program} {w w':World} {base:Nat} {t e:TypeId} {sz by_:Nat} {b:Option Addr} {l c:Nat} {xs:List Value}
theorem Own.nil:Own w base e sz none 0 0 []:=⟨by simp,.inl ⟨rfl,rfl⟩⟩
theorem Own.len (h:Own w base e sz b l c xs):xs.length=l*sz:=h.1
theorem Own.heap (h:Own w base e sz b l c xs) (hh:∀g,base≤g→g<w.heap.size→w'.heap[g]?=w.heap[g]?):Own w' base e sz b l c xs:=by
 obtain ⟨h1,h2⟩:=h
 refine ⟨h1,h2.imp id ?_⟩
 rintro ⟨g,cap,cur,hv,hg,hc,r⟩
 refine ⟨g,cap,cur,hv,hg,?_,r⟩
 rw [hh g hg,hc]
 rcases Nat.lt_or_ge g w.heap.size with k | k
 ·exact k
 ·rw [Array.getElem?_eq_none k] at hc;cases hc
theorem Own.chg {S:Nat→Prop} (h:Own w base e sz b l c xs) (k:Chg S w w') (hS:∀g,base≤g→g<w.heap.size→¬S g):Own w' base e sz b l c xs:=
 h.heap fun g hg hlt=>k.block g hlt (hS g hg hlt)
theorem Own.drew (h:Own w base e sz b l c xs):Own w.drew base e sz b l c xs:=h
theorem Own.alloc (h:Own w base e sz b l c xs) (o:Obj):Own (w.alloc o) base e sz b l c xs:=h.heap fun g _ hlt=>by
 show (w.heap.push o)[g]?=_
 rw [Array.getElem?_push,if_neg (by omega)]
theorem Own.get (h:Own w base e sz b l c xs) (hl:0<l):∃g cs,b=some ⟨g,0,none⟩∧base≤g∧Row w.heap g e cs∧cs.take (l*sz)=xs∧l≤c∧cs.length=c*sz:=by
 obtain ⟨h1,h2⟩:=h
 rcases h2 with ⟨hv,hn⟩ | ⟨g,cap,cur,hv,hg,hc,hcap,_,hcs,hx⟩
 ·omega
 ·injection hv with hv1 hv2 hv3
  subst hv3
  exact ⟨g,cur.toList,hv1,hg,by unfold Row;simpa using hc,hx,hcap,by simpa using hcs⟩
theorem Qi9 {cs:List Value} {n:Nat} (h:cs.take n=xs) {o:Nat} (ho:o<n):cs[o]?=xs[o]?:=by
 rw [←h,List.getElem?_take,if_pos ho]
theorem Q20 (T:ET P t e sz by_) (h:Own w base e sz b l c xs) {ty:TypeId} {a:Nat} {news:List Value} (r:Row w.heap a e news) (hl:news.length=sz) (h1:∀u∈news,oneC u=true)
  (hb:base≤w.heap.size) (hn:(l+1)*by_≤140737488355328) (hm:l+1≤9223372036854775807) :
  ∃b' c' w',(Builtin.append_ #[t,t] ty #[.slice b l c,.slice (some ⟨a,0,none⟩) 1 1]).run P w=.ok (.slice b' (l+1) c') w'∧Own w' base e sz b' (l+1) c' (xs++news)∧Chg (base≤·) w w':=by
 obtain ⟨i,z,hi,hz,hsz,hby,hzs⟩:=T.info
 obtain ⟨v',w',hr,ho,hg,_⟩:=run_append_own w base t ty e i z sz by_ T.und hi hz hsz hby hzs T.pos (.slice b l c) l xs h ⟨a,0,none⟩ 1 1 news (by omega)
  (fun j u hu=>by rw [Qad,r.cell,Nat.zero_add];exact hu) (fun u hu=>by have:=h1 u hu;cases u<;>first | rfl | (simp [oneC] at this)) (by unfold maxLen;omega) hn hb
 have hv:∃b' c',v'=.slice b' (l+1) c':=by
  rcases ho.2 with ⟨hv,hn⟩ | ⟨g,cap,cur,hv,_⟩
  ·omega
  ·exact ⟨_,_,hv⟩
 obtain ⟨b',c',rfl⟩:=hv
 refine ⟨b',c',w',hr,ho,⟨hg.os,hg.tape,hg.output,hg.size,fun k hk hS=>hg.block k hk ?_⟩⟩
 intro e'
 have hS:¬base≤k:=hS
 rcases h.2 with ⟨hv,_⟩ | ⟨g,cap,cur,hv,hgb,_⟩
 ·injection hv with hv1;subst hv1;simp [Value.ownBlock] at e'
 ·injection hv with hv1;subst hv1;simp [Value.ownBlock] at e';omega
end
def bk (b:Option Addr):Option Nat:=b.map Addr.block
theorem Q4x (g o:Nat) (t):bk (some ⟨g,o,t⟩)=some g:=rfl
section
variable {P:Program} {w w':World} {base:Nat} {t e:TypeId} {sz by_:Nat} {b b':Option Addr} {l c l' c':Nat} {xs ys:List Value}
theorem Qcp (b:Option Addr) (l c:Nat):(Value.slice b l c).ownBlock=bk b:=by cases b<;>rfl
theorem Own.Qar (h:Own w base e sz b l c xs) {k:Nat} (hk:bk b=some k):base≤k∧k<w.heap.size:=by
 rcases h.2 with ⟨hv,hn⟩ | ⟨g,cap,cur,hv,hg,hc,_⟩
 ·injection hv with hv1;subst hv1;cases hk
 ·injection hv with hv1;subst hv1;cases hk
  refine ⟨hg,?_⟩
  rcases Nat.lt_or_ge g w.heap.size with k | k
  ·exact k
  ·rw [Array.getElem?_eq_none k] at hc;cases hc
theorem Own.keep {S:Nat→Prop} (h:Own w base e sz b l c xs) (k:Chg S w w') (hS:∀g,bk b=some g→¬S g):Own w' base e sz b l c xs:=by
 obtain ⟨h1,h2⟩:=h
 refine ⟨h1,h2.imp id ?_⟩
 rintro ⟨g,cap,cur,hv,hg,hc,r⟩
 refine ⟨g,cap,cur,hv,hg,?_,r⟩
 have hlt:g<w.heap.size:=by
  rcases Nat.lt_or_ge g w.heap.size with k | k
  ·exact k
  ·rw [Array.getElem?_eq_none k] at hc;cases hc
 rw [k.block g hlt ?_,hc]
 injection hv with hv1;subst hv1;exact hS g rfl
theorem Own.mono {base':Nat} (h:Own w base e sz b l c xs) (hb:base'≤base):Own w base' e sz b l c xs:=by
 obtain ⟨h1,h2⟩:=h
 refine ⟨h1,h2.imp id ?_⟩
 rintro ⟨g,cap,cur,hv,hg,r⟩
 exact ⟨g,cap,cur,hv,Nat.le_trans hb hg,r⟩
theorem Own.cap (h:Own w base e sz b l c xs):l≤c∧c≤maxLen:=by
 rcases h.2 with ⟨hv,hn⟩ | ⟨g,cap,cur,hv,hg,hc,h1,h2,_⟩
 ·injection hv with _ hv2 hv3;subst hv2 hv3;exact ⟨Nat.le_refl _,by decide⟩
 ·injection hv with _ hv2 hv3;subst hv3;exact ⟨h1,h2⟩
def Apart (b b':Option Addr):Prop:=∀k,bk b=some k→bk b'≠some k
theorem Apart.symm (h:Apart b b'):Apart b' b:=fun k h1 h2=>h k h2 h1
theorem Apart.nil:Apart none b':=fun k h=>by cases h
theorem Qaw (T:ET P t e sz by_) (h:Own w base e sz b l c xs) {ty:TypeId} {a:Nat} {news:List Value} (r:Row w.heap a e news) (hl:news.length=sz) (h1:∀u∈news,oneC u=true)
  (hb:base≤w.heap.size) (hn:(l+1)*by_≤140737488355328) (hm:l+1≤9223372036854775807) :
  ∃b' c' w',(Builtin.append_ #[t,t] ty #[.slice b l c,.slice (some ⟨a,0,none⟩) 1 1]).run P w=.ok (.slice b' (l+1) c') w'∧Own w' base e sz b' (l+1) c' (xs++news)∧Chg (fun k=>bk b=some k) w w'∧(bk b'=bk b∨bk b'=some w.heap.size):=by
 obtain ⟨i,z,hi,hz,hsz,hby,hzs⟩:=T.info
 obtain ⟨v',w',hr,ho,hg,_,hw⟩:=run_append_own_at w base t ty e i z sz by_ T.und hi hz hsz hby hzs T.pos (.slice b l c) l xs h ⟨a,0,none⟩ 1 1 news (by omega)
  (fun j u hu=>by rw [Qad,r.cell,Nat.zero_add];exact hu) (fun u hu=>by have:=h1 u hu;cases u<;>first | rfl | (simp [oneC] at this)) (by unfold maxLen;omega) hn hb
 have hv:∃b' c',v'=.slice b' (l+1) c':=by
  rcases ho.2 with ⟨hv,hn⟩ | ⟨g,cap,cur,hv,_⟩
  ·omega
  ·exact ⟨_,_,hv⟩
 obtain ⟨b',c',rfl⟩:=hv
 rw [Qcp,Qcp] at hw
 refine ⟨b',c',w',hr,ho,⟨hg.os,hg.tape,hg.output,hg.size,fun k hk hS=>hg.block k hk ?_⟩,hw⟩
 rw [Qcp];exact fun e=>hS e.symm
theorem Apart.app (h:Apart b b') {b2:Option Addr} (hw:bk b2=bk b∨bk b2=some w.heap.size) (ho:∀k,bk b'=some k→k<w.heap.size):Apart b2 b':=by
 intro k h1 h2
 rcases hw with e | e
 ·exact h k (by rw [←e];exact h1) h2
 ·rw [e] at h1;cases h1;exact absurd (ho _ h2) (by omega)
end
def VA (w:World) (b:Option Addr) (l sz:Nat) (xs:List Value):Prop:=
 xs.length=l*sz∧(l=0∨∃g o e cs,b=some ⟨g,o,none⟩∧Row w.heap g e cs∧(cs.drop o).take (l*sz)=xs)
section
variable {P:Program} {w w':World} {b sb:Option Addr} {l c sl sc sz base by_ i k:Nat} {xs ys:List Value} {t e:TypeId}
theorem VA.zero:VA w b 0 sz []:=⟨by simp,.inl rfl⟩
theorem VA.keep {S:Nat→Prop} (h:VA w b l sz xs) (k:Chg S w w') (hS:∀g,0<l→bk b=some g→¬S g):VA w' b l sz xs:=by
 obtain ⟨h1,h2⟩:=h
 refine ⟨h1,?_⟩
 rcases h2 with h0 | ⟨g,o,e,cs,rfl,hr,hx⟩
 ·exact .inl h0
 ·by_cases hl:l=0
  ·exact .inl hl
  ·exact .inr ⟨g,o,e,cs,rfl,k.row (hS g (by omega) rfl) hr,hx⟩
theorem VA.nob (h:VA w b l sz xs) (k:Chg Qaa w w'):VA w' b l sz xs:=h.keep k (fun _ _ _ h=>h)
theorem VA.drew (h:VA w b l sz xs):VA w.drew b l sz xs:=h
theorem VA.alloc (h:VA w b l sz xs) (o:Obj):VA (w.alloc o) b l sz xs:=h.nob ((Chg.refl _ _).alloc o)
theorem VA.blk (h:VA w b l sz xs) (hl:0<l):∃g,bk b=some g∧g<w.heap.size:=by
 rcases h.2 with h0 | ⟨g,o,e,cs,rfl,hr,_⟩
 ·omega
 ·exact ⟨g,rfl,hr.lt⟩
theorem VA.Qa6 (h:Own w base e sz b l c xs):VA w b l sz xs:=by
 refine ⟨h.len,?_⟩
 by_cases hl:l=0
 ·exact .inl hl
 ·obtain ⟨g,cs,rfl,_,hr,ht,_⟩:=h.get (by omega)
  exact .inr ⟨g,0,e,cs,rfl,hr,by simpa using ht⟩
theorem VA.Qgm {g:Nat} (r:Row w.heap g e xs) (hl:xs.length=l*sz):VA w (some ⟨g,0,none⟩) l sz xs:=
 ⟨hl,.inr ⟨g,0,e,xs,rfl,r,by rw [List.drop_zero,←hl,List.take_length]⟩⟩
theorem VA.ix (h:VA w b l sz xs) (hi:i<l) {K:Addr→Prop} (k:∀g o e cs,Row w.heap g e cs→bk b=some g→(∀j,j<sz→cs[o+j]?=xs[i*sz+j]?)→K ⟨g,o,none⟩):ixS b l (i:Int) sz K:=by
 rcases h.2 with h0 | ⟨g,o,e,cs,rfl,hr,hx⟩
 ·omega
 ·refine Qat hi (k g _ e cs hr rfl fun j hj=>?_)
  have hlt:i*sz+j<l*sz:=by
   calc i*sz+j<i*sz+sz:=by omega
    _=(i+1)*sz:=by rw [Nat.succ_mul]
    _≤l*sz:=Nat.mul_le_mul_right _ hi
  rw [←hx,List.getElem?_take,if_pos hlt,List.getElem?_drop,Nat.add_assoc]
theorem VA.post (h:VA w b l sz xs) (hk:k≤l):VA w (b.map fun a=>a.add (k*sz)) (l-k) sz (xs.drop (k*sz)):=by
 have hm:k*sz≤l*sz:=Nat.mul_le_mul_right _ hk
 refine ⟨by rw [List.length_drop,h.1,Nat.sub_mul],?_⟩
 rcases h.2 with h0 | ⟨g,o,e,cs,rfl,hr,hx⟩
 ·exact .inl (by omega)
 ·refine .inr ⟨g,o+k*sz,e,cs,by simp [Qad],hr,?_⟩
  rw [←hx,List.drop_take,List.drop_drop,Nat.sub_mul]
theorem Zmi (b:Option Addr) (m:Nat):bk (b.map fun a=>a.add m)=bk b:=by
 cases b with
 | none=>rfl
 | some a=>
  show some (a.add m).block=some a.block
  congr 1
  unfold Addr.add;split<;>rfl
theorem Qb0 (T:ET P t e sz by_) (h:Own w base e sz b l c xs) {ty:TypeId} (hs:VA w sb sl sz ys) (h1:∀u∈ys,oneC u=true) (hsl:0<sl) (hb:base≤w.heap.size) (hn:(l+sl)*by_≤140737488355328) (hm:l+sl≤9223372036854775807) :
  ∃b' c' w',(Builtin.append_ #[t,t] ty #[.slice b l c,.slice sb sl sc]).run P w=.ok (.slice b' (l+sl) c') w'∧Own w' base e sz b' (l+sl) c' (xs++ys)∧Chg (fun k=>bk b=some k) w w'∧(bk b'=bk b∨bk b'=some w.heap.size):=by
 obtain ⟨i,z,hi,hz,hsz,hby,hzs⟩:=T.info
 rcases hs.2 with h0 | ⟨g,o,e',cs,rfl,hr,hc⟩
 ·omega
 have hA:=hs.1
 obtain ⟨v',w',hr',ho,hg,_,hw⟩:=run_append_own_at w base t ty e i z sz by_ T.und hi hz hsz hby hzs T.pos (.slice b l c) l xs h ⟨g,o,none⟩ sl sc ys hA
  (fun j u hu=>by
   have hj:j<sl*sz:=by rw [←hA];exact (List.getElem?_eq_some_iff.1 hu).1
   rw [Qad,hr.cell,←hu,←hc,List.getElem?_take,if_pos hj,List.getElem?_drop]) (fun u hu=>by have:=h1 u hu;cases u<;>first | rfl | (simp [oneC] at this)) (by unfold maxLen;omega) hn hb
 have hv:∃b' c',v'=.slice b' (l+sl) c':=by
  rcases ho.2 with ⟨hv,hn⟩ | ⟨g,cap,cur,hv,_⟩
  ·omega
  ·exact ⟨_,_,hv⟩
 obtain ⟨b',c',rfl⟩:=hv
 rw [Qcp,Qcp] at hw
 refine ⟨b',c',w',hr',ho,⟨hg.os,hg.tape,hg.output,hg.size,fun k hk hS=>hg.block k hk ?_⟩,hw⟩
 rw [Qcp];exact fun e=>hS e.symm
end
theorem Qku {α:Type} {enc:α→List Value} {sz:Nat} (hsz:∀x,(enc x).length=sz):∀{l:List α} {i j:Nat} {x:α},l[i]?=some x→j<sz→(l.flatMap enc)[i*sz+j]?=(enc x)[j]?
 | [],i,j,x,h,_=>by simp at h
 | y::l,0,j,x,h,hj=>by
  simp at h;subst h
  rw [List.flatMap_cons,List.getElem?_append_left (by rw [hsz];omega)];congr 1;omega
 | y::l,i+1,j,x,h,hj=>by
  simp at h
  rw [List.flatMap_cons,List.getElem?_append_right (by rw [hsz,Nat.succ_mul];omega),hsz,←Qku hsz h hj]
  congr 1;rw [Nat.succ_mul];omega
theorem Qdm {P:Program} {w:World} {sb:Option Addr} {sl sc sz by_:Nat} {ys:List Value} {t e:TypeId} (T:ET P t e sz by_) {ty:TypeId} (hs:VA w sb sl sz ys) (h1:∀u∈ys,oneC u=true) (hn:sl*by_≤140737488355328) (hm:sl≤9223372036854775807) :
  ∃b' c' w',(Builtin.append_ #[t,t] ty #[.slice none 0 0,.slice sb sl sc]).run P w=.ok (.slice b' sl c') w'∧Own w' w.heap.size e sz b' sl c' ys∧Chg Qaa w w':=by
 by_cases h0:sl=0
 ·subst h0
  have hy:ys=[]:=List.length_eq_zero_iff.1 (by simpa using hs.1)
  subst hy
  obtain ⟨i,z,hi,hz,hsz,hby,hzs⟩:=T.info
  refine ⟨none,0,w,?_,Own.nil,Chg.refl _ _⟩
  refine run_append_nothing w t t ty e i T.und hi none 0 0 (by omega) _ ⟨.inl ⟨e,T.und⟩,fun _=>rfl,?_,?_,by simp,by simp⟩
  ·cases sb with
   | none=>rfl
   | some a=>simp [Builtin.firstCells];rfl
  ·cases sb with
   | none=>rfl
   | some a=>simp [Builtin.firstCells];rfl
 ·obtain ⟨b',c',w',hr,ho,hc,hw⟩:=Qb0 (sc:=sc) (ty:=ty) T (Own.nil (w:=w) (base:=w.heap.size) (e:=e) (sz:=sz)) hs h1 (by omega) (Nat.le_refl _) (by rw [Nat.zero_add];exact hn) (by omega)
  rw [Nat.zero_add] at hr ho
  rw [List.nil_append] at ho
  exact ⟨b',c',w',hr,ho,hc.mono fun k _ h=>by cases h⟩
theorem Qfo {P:Program} {w:World} {b sb:Option Addr} {l c sl sc sz base by_:Nat} {xs ys:List Value} {t e:TypeId} (T:ET P t e sz by_) (h:Own w base e sz b l c xs) {ty:TypeId} (hs:VA w sb sl sz ys) (h1:∀u∈ys,oneC u=true) (hb:base≤w.heap.size) (hn:(l+sl)*by_≤140737488355328) (hm:l+sl≤9223372036854775807) :
  ∃b' c' w',(Builtin.append_ #[t,t] ty #[.slice b l c,.slice sb sl sc]).run P w=.ok (.slice b' (l+sl) c') w'∧Own w' base e sz b' (l+sl) c' (xs++ys)∧Chg (fun k=>bk b=some k) w w'∧(bk b'=bk b∨bk b'=some w.heap.size):=by
 by_cases h0:sl=0
 ·subst h0
  have hy:ys=[]:=List.length_eq_zero_iff.1 (by simpa using hs.1)
  subst hy
  obtain ⟨i,z,hi,hz,hsz,hby,hzs⟩:=T.info
  refine ⟨b,c,w,?_,by simpa using h,Chg.refl _ _,.inl rfl⟩
  refine run_append_nothing w t t ty e i T.und hi b l c h.cap.1 _ ⟨.inl ⟨e,T.und⟩,fun _=>rfl,?_,?_,by simp,by simp⟩
  ·cases sb with
   | none=>rfl
   | some a=>simp [Builtin.firstCells];rfl
  ·cases sb with
   | none=>rfl
   | some a=>simp [Builtin.firstCells];rfl
 ·exact Qb0 T h hs h1 (by omega) hb hn hm
end Go.Proofs.YtfeekmmfdkfgmaaGreatDoor
