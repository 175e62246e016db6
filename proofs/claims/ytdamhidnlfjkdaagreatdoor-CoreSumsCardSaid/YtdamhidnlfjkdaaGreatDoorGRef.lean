/-
The reference of layer 4: lists of items.
Conditions: those that each theorem states.
-/
import Derived.Test.YtdamhidnlfjkdaaGreatDoorGLaw
namespace Go.Proofs.YtdamhidnlfjkdaaGreatDoor
open Go Go.RowKit
set_option linter.unusedVariables false
set_option linter.unusedSimpArgs false
namespace Seq
def Okb (bad:Nat→Prop) (b:Option Addr):Prop:=∀k,bk b=some k→¬bad k
def RF (w:World) (bad:Nat→Prop) (b:Option Addr) (l:Nat) (X:List (List Nat)):Prop:=
  X.length=l∧Okb bad b∧(l=0∨∃g o e cs,b=some ⟨g,o,none⟩∧Row w.heap g e cs∧∀i A,X[i]?=some A→∃eb ec,cs[o+i]?=some (.slice eb A.length ec)∧IA w eb A.length (ints A)∧Okb bad eb∧A.length≤ec)
section
variable {w w':World} {bad:Nat→Prop} {b:Option Addr} {l c:Nat} {X:List (List Nat)} {A:List Nat}
theorem RF.keep {S:Nat→Prop} (h:RF w bad b l X) (k:Chg S w w') (hS:∀i,S i→bad i):RF w' bad b l X:=by
  obtain ⟨h1,h2,h3⟩:=h
  refine ⟨h1,h2,h3.imp id ?_⟩
  rintro ⟨g,o,e,cs,rfl,hr,hc⟩
  refine ⟨g,o,e,cs,rfl,k.row (fun h=>h2 g rfl (hS g h)) hr,fun i A hA=>?_⟩
  obtain ⟨eb,ec,h4,h5,h6,h7⟩:=hc i A hA
  exact ⟨eb,ec,h4,h5.keep k (fun g hg h=>h6 g hg (hS g h)),h6,h7⟩
theorem RF.nob (h:RF w bad b l X) (k:Chg Nobody w w'):RF w' bad b l X:=h.keep k (fun _ h=>h.elim)
theorem RF.drew (h:RF w bad b l X):RF w.drew bad b l X:=h
theorem RF.rd (h:RF w bad b l X) {i:Nat} (hA:X[i]?=some A) {K:Option Addr→Nat→Nat→Prop} (k:∀eb ec,IA w eb A.length (ints A)→Okb bad eb→A.length≤ec→K eb A.length ec):ixS b l (i:Int) 1 fun a=>ldS a w K:=by
  have hi:i<l:=by rw [←h.1];exact (List.getElem?_eq_some_iff.1 hA).1
  rcases h.2.2 with h0 | ⟨g,o,e,cs,rfl,hr,hc⟩
  · omega
  · obtain ⟨eb,ec,h4,h5,h6,h7⟩:=hc i A hA
    refine ixS_i hi (ldS_r hr ?_ (k eb ec h5 h6 h7))
    rw [Nat.mul_one];exact h4
end
def wo (X:List (List Nat)) (a b:Int) (n:Nat):List (List Nat):=(List.range n).filterMap fun i:Nat=>if (i:Int)=a∨(i:Int)=b then none else X[i]?
end Seq
end Go.Proofs.YtdamhidnlfjkdaaGreatDoor
namespace Go.Proofs.YtdamhidnlfjkdaaGreatDoor
open Go Go.RowKit
set_option linter.unusedVariables false
set_option linter.unusedSimpArgs false
namespace Seq
theorem ET_list:ET Pg T_sl_sl_int T_sl_int 1 24:=ET.of (by kernel_rfl) (by kernel_rfl)
def El (w:World) (bad:Nat→Prop) (v:Value) (A:List Nat):Prop:=∃eb ec,v=.slice eb A.length ec∧IA w eb A.length (ints A)∧Okb bad eb∧A.length≤ec∧0<A.length
def OX (w:World) (bad:Nat→Prop) (xs:List Value) (X:List (List Nat)):Prop:=xs.length=X.length∧∀(i:Nat) (A:List Nat),X[i]?=some A→∃v,xs[i]?=some v∧El w bad v A
section
variable {w w':World} {bad bad':Nat→Prop} {b b':Option Addr} {l c base:Nat} {X:List (List Nat)} {A:List Nat} {xs:List Value} {v:Value}
theorem IA.blk {A:List Int} (h:IA w b l A) (hl:0<l):∃g,bk b=some g∧g<w.heap.size:=by
  rcases h.2 with h0 | ⟨g,o,e,cs,rfl,hr,_⟩
  · omega
  · exact ⟨g,rfl,hr.lt⟩
theorem El.chg {S:Nat→Prop} (h:El w bad v A) (k:Chg S w w') (hS:∀i,i<w.heap.size→S i→bad i) (hb:∀i,i<w.heap.size→bad' i→bad i):El w' bad' v A:=by
  obtain ⟨eb,ec,h1,h2,h3,h4,h5⟩:=h
  obtain ⟨g,hg,hlt⟩:=h2.blk h5
  refine ⟨eb,ec,h1,h2.keep k (fun g' hg' hs=>?_),fun k hk hb'=>?_,h4,h5⟩
  · rw [hg] at hg';cases hg';exact h3 g hg (hS g hlt hs)
  · rw [hg] at hk;cases hk;exact h3 g hg (hb g hlt hb')
theorem OX.chg {S:Nat→Prop} (h:OX w bad xs X) (k:Chg S w w') (hS:∀i,i<w.heap.size→S i→bad i) (hb:∀i,i<w.heap.size→bad' i→bad i):OX w' bad' xs X:=
  ⟨h.1,fun i A hA=>let ⟨v,h1,h2⟩:=h.2 i A hA;⟨v,h1,h2.chg k hS hb⟩⟩
theorem OX.nil:OX w bad [] []:=⟨rfl,fun i A h=>by simp at h⟩
theorem OX.snoc (h:OX w bad xs X) (k:El w bad v A):OX w bad (xs++[v]) (X++[A]):=by
  refine ⟨by simp [h.1],fun i B hB=>?_⟩
  by_cases hi:i<X.length
  · rw [List.getElem?_append_left hi] at hB
    obtain ⟨u,h1,h2⟩:=h.2 i B hB
    exact ⟨u,by rw [List.getElem?_append_left (by rw [h.1];exact hi)];exact h1,h2⟩
  · have hlt:=(List.getElem?_eq_some_iff.1 hB).1
    simp at hlt
    have hi:i=X.length:=by omega
    subst hi
    rw [List.getElem?_append_right (Nat.le_refl _)] at hB
    simp at hB
    subst hB
    exact ⟨v,by rw [←h.1,List.getElem?_append_right (Nat.le_refl _)];simp,k⟩
abbrev Bad (bad:Nat→Prop) (b:Option Addr):Nat→Prop:=fun k=>bad k∨bk b=some k
theorem RF.of_own (ho:Own w base T_sl_int 1 b l c xs) (hx:OX w (Bad bad b) xs X) (hbad:∀k,base≤k→¬bad k):RF w bad b l X:=by
  have hl:=ho.len
  rw [Nat.mul_one] at hl
  refine ⟨by rw [←hx.1,hl],fun k hk=>hbad k (ho.bk_lt hk).1,?_⟩
  by_cases h0:l=0
  · exact .inl h0
  · obtain ⟨g,cs,rfl,_,hr,ht,_,_⟩:=ho.get (by omega)
    refine .inr ⟨g,0,_,cs,rfl,hr,fun i A hA=>?_⟩
    obtain ⟨v,h1,eb,ec,rfl,h2,h3,h4,h5⟩:=hx.2 i A hA
    have hi:i<l:=by rw [←hl,hx.1];exact (List.getElem?_eq_some_iff.1 hA).1
    exact ⟨eb,ec,by rw [Nat.zero_add,own_cell ht (by omega)];exact h1,h2,fun k hk hb=>h3 k hk (.inl hb),h4⟩
theorem RF.get (h:RF w bad b l X) {i:Nat} (hA:X[i]?=some A):∃g o e cs eb ec,b=some ⟨g,o,none⟩∧Row w.heap g e cs∧i<l∧cs[o+i]?=some (.slice eb A.length ec)∧IA w eb A.length (ints A)∧Okb bad eb∧A.length≤ec:=by
  have hi:i<l:=by rw [←h.1];exact (List.getElem?_eq_some_iff.1 hA).1
  rcases h.2.2 with h0 | ⟨g,o,e,cs,rfl,hr,hc⟩
  · omega
  · obtain ⟨eb,ec,h4,h5,h6,h7⟩:=hc i A hA
    exact ⟨g,o,e,cs,eb,ec,rfl,hr,hi,h4,h5,h6,h7⟩
end
end Seq
end Go.Proofs.YtdamhidnlfjkdaaGreatDoor
namespace Go.Proofs.YtdamhidnlfjkdaaGreatDoor
open Go Go.RowKit
set_option linter.unusedVariables false
set_option linter.unusedSimpArgs false
namespace Seq
end Seq
end Go.Proofs.YtdamhidnlfjkdaaGreatDoor
namespace Go.Proofs.YtdamhidnlfjkdaaGreatDoor
open Go Go.RowKit
set_option linter.unusedVariables false
set_option linter.unusedSimpArgs false
namespace Seq
section
variable {w w':World} {bad bad':Nat→Prop} {b b':Option Addr} {l c base:Nat} {X Y:List (List Nat)} {A:List Nat} {xs vs:List Value} {v:Value}
theorem OX.one (k:El w bad v A):OX w bad [v] [A]:=OX.snoc (xs:=[]) OX.nil k
end
end Seq
end Go.Proofs.YtdamhidnlfjkdaaGreatDoor
namespace Go.Proofs.YtdamhidnlfjkdaaGreatDoor
open Go Go.RowKit
set_option linter.unusedVariables false
set_option linter.unusedSimpArgs false
namespace Seq
theorem IA.pre {w:World} {b:Option Addr} {l k:Nat} {A:List Int} (h:IA w b l A) (hk:k≤l):IA w b k (A.take k):=by
  obtain ⟨h1,h2⟩:=h
  refine ⟨by simp;omega,?_⟩
  rcases h2 with h2 | ⟨g,o,e,cs,rfl,hr,hc⟩
  · exact .inl (by omega)
  · refine .inr ⟨g,o,e,cs,rfl,hr,fun i hi=>?_⟩
    rw [hc i (by omega),List.getElem?_take,if_pos hi]
theorem IA.post {w:World} {b:Option Addr} {l k:Nat} {A:List Int} (h:IA w b l A) (hk:k≤l):IA w (b.map fun a=>a.add (k*1)) (l-k) (A.drop k):=by
  obtain ⟨h1,h2⟩:=h
  refine ⟨by simp;omega,?_⟩
  rcases h2 with h2 | ⟨g,o,e,cs,rfl,hr,hc⟩
  · exact .inl (by omega)
  · refine .inr ⟨g,o+k,e,cs,by simp [add_mk],hr,fun i hi=>?_⟩
    rw [Nat.add_assoc,hc (k+i) (by omega),List.getElem?_drop]
end Seq
end Go.Proofs.YtdamhidnlfjkdaaGreatDoor
namespace Go.Proofs.YtdamhidnlfjkdaaGreatDoor
open Go Go.RowKit
set_option linter.unusedVariables false
set_option linter.unusedSimpArgs false
namespace Seq
theorem FstMn.snoc {v:Nat→Int} {l:List Nat} {z u:Nat} (h:FstMn v l z):FstMn v (l++[u]) (if v u<v z then u else z):=by
  obtain ⟨pre,post,h1,h2,h3⟩:=h
  split
  · rename_i hlt
    refine ⟨l,[],by simp,fun y hy=>?_,fun y hy=>?_⟩
    · rcases List.mem_append.1 hy with hy | hy
      · have:=h2 y hy;omega
      · simp at hy;subst hy;omega
    · have:=h2 y hy;omega
  · rename_i hlt
    refine ⟨pre,post++[u],by rw [h1];simp,fun y hy=>?_,h3⟩
    rcases List.mem_append.1 hy with hy | hy
    · exact h2 y hy
    · simp at hy;subst hy;omega
theorem FstMn.uniq {v:Nat→Int} {l:List Nat} {z u:Nat} (h:FstMn v l z) (k:FstMn v l u):z=u:=by
  obtain ⟨p1,q1,h1,h2,h3⟩:=h
  obtain ⟨p2,q2,k1,k2,k3⟩:=k
  have a:=h2 u (by rw [k1];simp)
  have b:=k2 z (by rw [h1];simp)
  rw [h1] at k1
  rcases app_mid k1 with ⟨p,e⟩ | ⟨_,e,_⟩ | ⟨p,e,_⟩
  · have:=h3 u (by rw [e];simp);omega
  · exact e.symm
  · have:=k3 z (by rw [e];simp);omega
theorem FstMx.snoc {v:Nat→Int} {l:List Nat} {z u:Nat} (h:FstMx v l z):FstMx v (l++[u]) (if v z<v u then u else z):=by
  obtain ⟨pre,post,h1,h2,h3⟩:=h
  split
  · rename_i hlt
    refine ⟨l,[],by simp,fun y hy=>?_,fun y hy=>?_⟩
    · rcases List.mem_append.1 hy with hy | hy
      · have:=h2 y hy;omega
      · simp at hy;subst hy;omega
    · have:=h2 y hy;omega
  · rename_i hlt
    refine ⟨pre,post++[u],by rw [h1];simp,fun y hy=>?_,h3⟩
    rcases List.mem_append.1 hy with hy | hy
    · exact h2 y hy
    · simp at hy;subst hy;omega
theorem FstMx.uniq {v:Nat→Int} {l:List Nat} {z u:Nat} (h:FstMx v l z) (k:FstMx v l u):z=u:=by
  obtain ⟨p1,q1,h1,h2,h3⟩:=h
  obtain ⟨p2,q2,k1,k2,k3⟩:=k
  have a:=h2 u (by rw [k1];simp)
  have b:=k2 z (by rw [h1];simp)
  rw [h1] at k1
  rcases app_mid k1 with ⟨p,e⟩ | ⟨_,e,_⟩ | ⟨p,e,_⟩
  · have:=h3 u (by rw [e];simp);omega
  · exact e.symm
  · have:=k3 z (by rw [e];simp);omega
end Seq
end Go.Proofs.YtdamhidnlfjkdaaGreatDoor
