/-
A law's arguments opened: slices of acts on a map.
Conditions: those that each theorem states.
-/
import Derived.Test.YtpmicakdjhoafaaGreatDoorOpens
import Derived.Test.YtpmicakdjhoafaaGreatDoorGLawC
set_option linter.unusedVariables false
set_option linter.unusedSimpArgs false
namespace Go.Proofs.YtpmicakdjhoafaaGreatDoor
open Go Go.ChangeShapes Go.WideShapes Go.RowKit Go.Deep
section
variable {H:Type} {enc:TypeId × Value→H} {P:Program} {w:World} {base:Nat} {spare:Nat→Bool} {held:Bool} {r:Reach} {b0:Nat}
def FI (P:Program) (k:IntKind) (fs:Array Field) (j o:Nat):Prop:=∃g:Field,fs[j]?=some g∧g.offset=o∧P.underlying g.type=some (.int k)∧P.cellsOf g.type=1
def FA (P:Program) (fs:Array Field) (j o:Nat):Prop:=∃(g:Field) (e:TypeId),fs[j]?=some g∧g.offset=o∧P.underlying g.type=some (.array 2 e)∧P.cellsOf g.type=2∧P.underlying e=some (.int .i64)∧P.cellsOf e=1
theorem Qxy {e:TypeId} {fs:Array Field} {fuel:Nat} {cs:List Value} {x:DataW H × List MemPlace} (he:P.underlying e=some (.struct fs)) (h0:FI P .i64 fs 0 0) (h1:FI P .i64 fs 1 1) (h2:FA P fs 2 2) (h3:FA P fs 3 4) (h4:FI P .i32 fs 4 6)
  (h:DataW.trod enc P w base spare held fuel e cs=some x) (k:Nat) (hk:k<7):∃z,cs[k]?=some (.int (if k=6 then .i32 else .i64) z)∧(Lit.int (if k=6 then .i32 else .i64) z).wf=true:=by
 obtain ⟨xs,m,rfl,_,hl,hxl,hf⟩:=DataW.trod_struct he h
 have one:∀{kk:IntKind} {j o:Nat},FI P kk fs j o→∃z,cs[o]?=some (.int kk z)∧(Lit.int kk z).wf=true:=fun {kk j o} hh=>by
  obtain ⟨g,k1,k2,k3,k4⟩:=hh
  have hj:=hf j g k1
  rw [k2,k4] at hj
  have hjx:j<xs.length:=by rw [hxl];exact (Array.getElem?_eq_some_iff.1 k1).1
  rw [List.getElem?_eq_getElem hjx] at hj
  obtain ⟨z,e1,_,hwf⟩:=DataW.trod_int k3 hj
  refine ⟨z,?_,hwf⟩
  have:=congrArg (fun l:List Value=>l[0]?) e1
  simpa using this
 have two:∀{j o:Nat},FA P fs j o→∀i,i<2→∃z,cs[o+i]?=some (.int .i64 z)∧(Lit.int .i64 z).wf=true:=fun {j o} hh i hi=>by
  obtain ⟨g,e2,k1,k2,k3,k4,k5,k6⟩:=hh
  have hj:=hf j g k1
  rw [k2,k4] at hj
  have hjx:j<xs.length:=by rw [hxl];exact (Array.getElem?_eq_some_iff.1 k1).1
  rw [List.getElem?_eq_getElem hjx] at hj
  obtain ⟨ys,m2,_,_,hl2,hyl,hf2⟩:=DataW.trod_array k3 hj
  have hi2:=hf2 i hi
  rw [k6] at hi2
  rw [List.getElem?_eq_getElem (by omega)] at hi2
  obtain ⟨z,e1,_,hwf⟩:=DataW.trod_int k5 hi2
  refine ⟨z,?_,hwf⟩
  have:=congrArg (fun l:List Value=>l[0]?) e1
  simp only [Nat.mul_one] at this
  rw [List.getElem?_take_of_lt (by omega),List.getElem?_drop,List.getElem?_take_of_lt (by omega),List.getElem?_drop] at this
  simpa using this
 match k,hk with
 | 0,_=>exact one h0
 | 1,_=>exact one h1
 | 2,_=>exact two h2 0 (by omega)
 | 3,_=>exact two h2 1 (by omega)
 | 4,_=>exact two h3 0 (by omega)
 | 5,_=>exact two h3 1 (by omega)
 | 6,_=>exact one h4
theorem open_acts {t e:TypeId} {fs:Array Field} (ht:P.underlying t=some (.slice e)) (he:P.underlying e=some (.struct fs)) (hc:P.cellsOf e=7) (h0:FI P .i64 fs 0 0) (h1:FI P .i64 fs 1 1) (h2:FA P fs 2 2) (h3:FA P fs 3 4) (h4:FI P .i32 fs 4 6)
  {v:Value} {d:DataW H} {ps:List MemPlace} (hv:Value.okWide P w r b0 t v) (h:DataW.Trod enc P w base spare held t v d ps):∃b l c f,v=.slice b l c∧AC w b l f∧∀i,i<l→-2147483648≤f i 6∧f i 6≤2147483647:=by
 obtain ⟨b,l,c,rfl⟩:=okWide_slice ht hv
 obtain ⟨fuel,h⟩:=h
 rcases open_slice ht h with ⟨hcs,_⟩ | ⟨a,len,cap,m,n,D,Pl,hcs,hb,hl,hmx,hm,_,hel⟩
 ·have hcs:[Value.slice b l c]=[Value.slice none 0 0]:=hcs
  injection hcs with h1;injection h1 with h1 h2 h3;subst h1 h2 h3
  exact ⟨_,_,_,fun _ _=>0,rfl,.inl rfl,fun _ _=>by omega⟩
 ·have hcs:[Value.slice b l c]=[Value.slice (some a) len cap]:=hcs
  injection hcs with h1;injection h1 with h1 h2 h3;subst h1 h2 h3
  have hml:l≤m:=by rw [hm];split<;>omega
  have cellsOf:∀i k,i<l→k<7→∃z,w.cell? ((a.add (i*7)).add k)=some (.int (if k=6 then .i32 else .i64) z)∧(Lit.int (if k=6 then .i32 else .i64) z).wf=true:=by
   intro i k hi hk
   obtain ⟨cs',h1,h2⟩:=hel i (by omega)
   rw [hc] at h1
   obtain ⟨z,h5,hwf⟩:=Qxy he ‹_› ‹_› ‹_› ‹_› ‹_› h2 k hk
   exact ⟨z,by rw [←h5];exact (World.cells?_some h1).2.2 k (by omega),hwf⟩
  refine ⟨_,_,_,fun i k=>match w.cell? ((a.add (i*7)).add k) with | some (.int _ x)=>x | _=>0,rfl,?_,?_⟩
  ·by_cases h0:l=0
   ·exact .inl h0
   ·refine .inr ⟨a,rfl,?_,?_⟩
    ·obtain ⟨cs',h1,_⟩:=hel 0 (by omega)
     have:=World.cells?_block h1 (by rw [hc];omega)
     rw [Qm9] at this;exact this
    ·intro i k hi hk
     obtain ⟨z,h6,_⟩:=cellsOf i k hi hk
     simp only [h6]
  ·intro i hi
   obtain ⟨z,h6,hwf⟩:=cellsOf i 6 hi (by omega)
   simp only [h6]
   simp only [if_pos,Lit.wf,Bool.and_eq_true,decide_eq_true_eq] at hwf
   exact hwf
theorem open_act {t:TypeId} {fs:Array Field} (ht:P.underlying t=some (.struct fs)) (hc2:P.cellsOf t=7) (h0:FI P .i64 fs 0 0) (h1:FI P .i64 fs 1 1) (h2:FA P fs 2 2) (h3:FA P fs 3 4) (h4:FI P .i32 fs 4 6)
  {v:Value} {d:DataW H} {ps:List MemPlace} (hv:Value.okWide P w r b0 t v) (h:DataW.Trod enc P w base spare held t v d ps) :
  ∃x0 x1 x2 x3 x4 x5 x6,v=.agg #[.int .i64 x0,.int .i64 x1,.int .i64 x2,.int .i64 x3,.int .i64 x4,.int .i64 x5,.int .i32 x6]∧-2147483648≤x6∧x6≤2147483647:=by
 simp only [Value.okWide,ht] at hv
 obtain ⟨cs,rfl,hsz,_⟩:=hv
 obtain ⟨fuel,h⟩:=h
 rw [hc2] at hsz
 obtain ⟨l⟩:=cs
 match l,hsz with
 | [c0,c1,c2,c3,c4,c5,c6],_=>
  have e0:(Value.agg #[c0,c1,c2,c3,c4,c5,c6]).cells.toList=[c0,c1,c2,c3,c4,c5,c6]:=rfl
  rw [e0] at h
  have key:=Qxy ht h0 h1 h2 h3 h4 h
  obtain ⟨x0,k0,_⟩:=key 0 (by omega)
  obtain ⟨x1,k1,_⟩:=key 1 (by omega)
  obtain ⟨x2,k2,_⟩:=key 2 (by omega)
  obtain ⟨x3,k3,_⟩:=key 3 (by omega)
  obtain ⟨x4,k4,_⟩:=key 4 (by omega)
  obtain ⟨x5,k5,_⟩:=key 5 (by omega)
  obtain ⟨x6,k6,hwf⟩:=key 6 (by omega)
  simp only [if_pos,Lit.wf,Bool.and_eq_true,decide_eq_true_eq] at hwf
  simp at k0 k1 k2 k3 k4 k5 k6
  exact ⟨x0,x1,x2,x3,x4,x5,x6,by rw [k0,k1,k2,k3,k4,k5,k6],hwf⟩
end
end Go.Proofs.YtpmicakdjhoafaaGreatDoor
