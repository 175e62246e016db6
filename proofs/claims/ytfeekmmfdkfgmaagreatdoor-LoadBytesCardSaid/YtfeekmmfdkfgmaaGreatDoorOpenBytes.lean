/-
A law's arguments opened: bytes.
Conditions: those that each theorem states.
-/
import Derived.Test.YtfeekmmfdkfgmaaGreatDoorOpens
import Derived.Test.YtfeekmmfdkfgmaaGreatDoorHdec
set_option linter.unusedVariables false
set_option linter.unusedSimpArgs false
namespace Go.Proofs.YtfeekmmfdkfgmaaGreatDoor
open Go Go.ChangeShapes Go.WideShapes Go.RowKit Go.Deep
set_option linter.unnecessarySimpa false
section
variable {H:Type} {enc:TypeId × Value→H} {P:Program} {w:World} {base:Nat} {spare:Nat→Bool} {held:Bool} {r:Reach} {b0:Nat}
open Core in
theorem open_bytes {t e:TypeId} (ht:P.underlying t=some (.slice e)) (he:P.underlying e=some (.int .u8)) (hc:P.cellsOf e=1)
  {v:Value} {d:DataW H} {ps:List MemPlace} (hv:Value.okWide P w r b0 t v) (h:DataW.Trod enc P w base spare held t v d ps):∃(b:Option Addr) (c:Nat) (xs:List Nat),v=.slice b xs.length c∧CV w b xs.length 1 (bys xs)∧Bt xs∧xs.length≤c:=by
 obtain ⟨b,l,c,rfl⟩:=okWide_slice ht hv
 obtain ⟨fuel,h⟩:=h
 rcases open_slice ht h with ⟨hcs,_⟩ | ⟨a,len,cap,m,n,D,Pl,hcs,hb,hl,hmx,hm,_,hel⟩
 ·have hcs:[Value.slice b l c]=[Value.slice none 0 0]:=hcs
  injection hcs with h1;injection h1 with h1 h2 h3;subst h1 h2 h3
  exact ⟨_,_,[],rfl,.inl rfl,fun x hx=>(by cases hx),Nat.le_refl _⟩
 ·have hcs:[Value.slice b l c]=[Value.slice (some a) len cap]:=hcs
  injection hcs with h1;injection h1 with h1 h2 h3;subst h1 h2 h3
  have hml:l≤m:=by rw [hm];split<;>omega
  have cellsOf:∀i,i<l→∃z:Nat,w.cell? (a.add i)=some (.int .u8 (z:Int))∧z<256:=by
   intro i hi
   obtain ⟨cs',h1,h2⟩:=hel i (by omega)
   rw [hc] at h1
   obtain ⟨z,h4,_,hwf⟩:=DataW.trod_int he h2
   have h5:cs'[0]?=some (.int .u8 z):=by
    rw [h4];rfl
   have h6:=((World.cells?_some h1).2.2 0 (by omega)).trans h5
   rw [Addr.add_add,show i*1+0=i by omega] at h6
   simp only [Lit.wf,Bool.and_eq_true,decide_eq_true_eq] at hwf
   have w1:0≤z:=hwf.1
   have w2:z≤255:=hwf.2
   exact ⟨z.toNat,by rw [Int.toNat_of_nonneg w1];exact h6,by omega⟩
  let g:Nat→Nat:=fun i=>match w.cell? (a.add i) with | some (.int _ x)=>x.toNat | _=>0
  have hg:∀i,i<l→w.cell? (a.add i)=some (.int .u8 (g i:Int))∧g i<256:=fun i hi=>by
   obtain ⟨z,hz,hz2⟩:=cellsOf i hi
   have:g i=z:=by show (match w.cell? (a.add i) with | some (.int _ x)=>x.toNat | _=>0)=z;rw [hz];rfl
   rw [this];exact ⟨hz,hz2⟩
  have hlen:((List.range l).map g).length=l:=by simp
  refine ⟨some a,c,(List.range l).map g,by rw [hlen],?_,fun x hx=>?_,by rw [hlen];exact hl⟩
  ·rw [hlen]
   by_cases h0:l=0
   ·exact .inl h0
   ·refine .inr ⟨a,rfl,?_,fun i k hi hk=>?_⟩
    ·obtain ⟨cs',h1,_⟩:=hel 0 (by omega)
     have:=World.cells?_block h1 (by rw [hc];decide)
     rw [Qeb] at this;exact this
    ·rw [Addr.add_add,show i*1+k=i by omega,(hg i hi).1]
     unfold bys
     rw [List.getElem?_map,List.getElem?_map,List.getElem?_range hi];rfl
  ·obtain ⟨i,hi,rfl⟩:=List.mem_map.1 hx
   exact (hg i (List.mem_range.1 hi)).2
end
end Go.Proofs.YtfeekmmfdkfgmaaGreatDoor
