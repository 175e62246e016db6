/-
Slices of records of any kinds of cells, as they read; what is appended of them.
Conditions: those that each theorem states.
-/
import Derived.Test.YtdamhidnlfjkdaaGreatDoorGMem
import Derived.Deep.Upon
namespace Go.Proofs.YtdamhidnlfjkdaaGreatDoor
open Go Go.RowKit
set_option linter.unusedVariables false
set_option linter.unusedSimpArgs false
def VA (w:World) (b:Option Addr) (l sz:Nat) (xs:List Value):Prop:=
  xs.length=l*sz∧(l=0∨∃g o e cs,b=some ⟨g,o,none⟩∧Row w.heap g e cs∧(cs.drop o).take (l*sz)=xs)
section
variable {P:Program} {w w':World} {b sb:Option Addr} {l c sl sc sz base by_ i k:Nat} {xs ys:List Value} {t e:TypeId}
theorem VA.len (h:VA w b l sz xs):xs.length=l*sz:=h.1
theorem VA.zero:VA w b 0 sz []:=⟨by simp,.inl rfl⟩
theorem VA.keep {S:Nat→Prop} (h:VA w b l sz xs) (k:Chg S w w') (hS:∀g,0<l→bk b=some g→¬S g):VA w' b l sz xs:=by
  obtain ⟨h1,h2⟩:=h
  refine ⟨h1,?_⟩
  rcases h2 with h0 | ⟨g,o,e,cs,rfl,hr,hx⟩
  · exact .inl h0
  · by_cases hl:l=0
    · exact .inl hl
    · exact .inr ⟨g,o,e,cs,rfl,k.row (hS g (by omega) rfl) hr,hx⟩
theorem VA.nob (h:VA w b l sz xs) (k:Chg Nobody w w'):VA w' b l sz xs:=h.keep k (fun _ _ _ h=>h)
theorem VA.drew (h:VA w b l sz xs):VA w.drew b l sz xs:=h
theorem VA.alloc (h:VA w b l sz xs) (o:Obj):VA (w.alloc o) b l sz xs:=h.nob ((Chg.refl _ _).alloc o)
theorem VA.blk (h:VA w b l sz xs) (hl:0<l):∃g,bk b=some g∧g<w.heap.size:=by
  rcases h.2 with h0 | ⟨g,o,e,cs,rfl,hr,_⟩
  · omega
  · exact ⟨g,rfl,hr.lt⟩
theorem VA.of_own (h:Own w base e sz b l c xs):VA w b l sz xs:=by
  refine ⟨h.len,?_⟩
  by_cases hl:l=0
  · exact .inl hl
  · obtain ⟨g,cs,rfl,_,hr,ht,_⟩:=h.get (by omega)
    exact .inr ⟨g,0,e,cs,rfl,hr,by simpa using ht⟩
theorem VA.of_row {g:Nat} (r:Row w.heap g e xs) (hl:xs.length=l*sz):VA w (some ⟨g,0,none⟩) l sz xs:=
  ⟨hl,.inr ⟨g,0,e,xs,rfl,r,by rw [List.drop_zero,←hl,List.take_length]⟩⟩
theorem VA.ix (h:VA w b l sz xs) (hi:i<l) {K:Addr→Prop} (k:∀g o e cs,Row w.heap g e cs→bk b=some g→(∀j,j<sz→cs[o+j]?=xs[i*sz+j]?)→K ⟨g,o,none⟩):ixS b l (i:Int) sz K:=by
  rcases h.2 with h0 | ⟨g,o,e,cs,rfl,hr,hx⟩
  · omega
  · refine ixS_i hi (k g _ e cs hr rfl fun j hj=>?_)
    have hlt:i*sz+j<l*sz:=by
      calc i*sz+j<i*sz+sz:=by omega
        _=(i+1)*sz:=by rw [Nat.succ_mul]
        _≤l*sz:=Nat.mul_le_mul_right _ hi
    rw [←hx,List.getElem?_take,if_pos hlt,List.getElem?_drop,Nat.add_assoc]
theorem VA.pre (h:VA w b l sz xs) (hk:k≤l):VA w b k sz (xs.take (k*sz)):=by
  have hm:k*sz≤l*sz:=Nat.mul_le_mul_right _ hk
  refine ⟨by rw [List.length_take,h.1];omega,?_⟩
  rcases h.2 with h0 | ⟨g,o,e,cs,rfl,hr,hx⟩
  · exact .inl (by omega)
  · refine .inr ⟨g,o,e,cs,rfl,hr,?_⟩
    rw [←hx,List.take_take];congr 1;omega
theorem VA.post (h:VA w b l sz xs) (hk:k≤l):VA w (b.map fun a=>a.add (k*sz)) (l-k) sz (xs.drop (k*sz)):=by
  have hm:k*sz≤l*sz:=Nat.mul_le_mul_right _ hk
  refine ⟨by rw [List.length_drop,h.1,Nat.sub_mul],?_⟩
  rcases h.2 with h0 | ⟨g,o,e,cs,rfl,hr,hx⟩
  · exact .inl (by omega)
  · refine .inr ⟨g,o+k*sz,e,cs,by simp [add_mk],hr,?_⟩
    rw [←hx,List.drop_take,List.drop_drop,Nat.sub_mul]
theorem own_appendV (T:ET P t e sz by_) (h:Own w base e sz b l c xs) {ty:TypeId} (hs:VA w sb sl sz ys) (h1:∀u∈ys,oneC u=true) (hsl:0<sl) (hb:base≤w.heap.size) (hn:(l+sl)*by_≤140737488355328) (hm:l+sl≤9223372036854775807) :
    ∃b' c' w',(Builtin.append_ #[t,t] ty #[.slice b l c,.slice sb sl sc]).run P w=.ok (.slice b' (l+sl) c') w'∧Own w' base e sz b' (l+sl) c' (xs++ys)∧Chg (fun k=>bk b=some k) w w'∧(bk b'=bk b∨bk b'=some w.heap.size):=by
  obtain ⟨i,z,hi,hz,hsz,hby,hzs⟩:=T.info
  rcases hs.2 with h0 | ⟨g,o,e',cs,rfl,hr,hc⟩
  · omega
  have hA:=hs.1
  obtain ⟨v',w',hr',ho,hg,_,hw⟩:=run_append_own_at w base t ty e i z sz by_ T.und hi hz hsz hby hzs T.pos (.slice b l c) l xs h ⟨g,o,none⟩ sl sc ys hA
    (fun j u hu=>by
      have hj:j<sl*sz:=by rw [←hA];exact (List.getElem?_eq_some_iff.1 hu).1
      rw [add_mk,hr.cell,←hu,←hc,List.getElem?_take,if_pos hj,List.getElem?_drop]) (fun u hu=>by have:=h1 u hu;cases u<;>first | rfl | (simp [oneC] at this)) (by unfold maxLen;omega) hn hb
  have hv:∃b' c',v'=.slice b' (l+sl) c':=by
    rcases ho.2 with ⟨hv,hn⟩ | ⟨g,cap,cur,hv,_⟩
    · omega
    · exact ⟨_,_,hv⟩
  obtain ⟨b',c',rfl⟩:=hv
  rw [ownBlock_bk,ownBlock_bk] at hw
  refine ⟨b',c',w',hr',ho,⟨hg.os,hg.tape,hg.output,hg.size,fun k hk hS=>hg.block k hk ?_⟩,hw⟩
  rw [ownBlock_bk];exact fun e=>hS e.symm
end
theorem own_appendNil {P:Program} {w:World} {sb:Option Addr} {sl sc sz by_:Nat} {ys:List Value} {t e:TypeId} (T:ET P t e sz by_) {ty:TypeId} (hs:VA w sb sl sz ys) (h1:∀u∈ys,oneC u=true) (hn:sl*by_≤140737488355328) (hm:sl≤9223372036854775807) :
    ∃b' c' w',(Builtin.append_ #[t,t] ty #[.slice none 0 0,.slice sb sl sc]).run P w=.ok (.slice b' sl c') w'∧Own w' w.heap.size e sz b' sl c' ys∧Chg Nobody w w':=by
  by_cases h0:sl=0
  · subst h0
    have hy:ys=[]:=List.length_eq_zero_iff.1 (by simpa using hs.1)
    subst hy
    obtain ⟨i,z,hi,hz,hsz,hby,hzs⟩:=T.info
    refine ⟨none,0,w,?_,Own.nil,Chg.refl _ _⟩
    refine run_append_nothing w t t ty e i T.und hi none 0 0 (by omega) _ ⟨.inl ⟨e,T.und⟩,fun _=>rfl,?_,?_,by simp,by simp⟩
    · cases sb with
      | none=>rfl
      | some a=>simp [Builtin.firstCells];rfl
    · cases sb with
      | none=>rfl
      | some a=>simp [Builtin.firstCells];rfl
  · obtain ⟨b',c',w',hr,ho,hc,hw⟩:=own_appendV (sc:=sc) (ty:=ty) T (Own.nil (w:=w) (base:=w.heap.size) (e:=e) (sz:=sz)) hs h1 (by omega) (Nat.le_refl _) (by rw [Nat.zero_add];exact hn) (by omega)
    rw [Nat.zero_add] at hr ho
    rw [List.nil_append] at ho
    exact ⟨b',c',w',hr,ho,hc.mono fun k _ h=>by cases h⟩
theorem own_appendAny {P:Program} {w:World} {b sb:Option Addr} {l c sl sc sz base by_:Nat} {xs ys:List Value} {t e:TypeId} (T:ET P t e sz by_) (h:Own w base e sz b l c xs) {ty:TypeId} (hs:VA w sb sl sz ys) (h1:∀u∈ys,oneC u=true) (hb:base≤w.heap.size) (hn:(l+sl)*by_≤140737488355328) (hm:l+sl≤9223372036854775807) :
    ∃b' c' w',(Builtin.append_ #[t,t] ty #[.slice b l c,.slice sb sl sc]).run P w=.ok (.slice b' (l+sl) c') w'∧Own w' base e sz b' (l+sl) c' (xs++ys)∧Chg (fun k=>bk b=some k) w w'∧(bk b'=bk b∨bk b'=some w.heap.size):=by
  by_cases h0:sl=0
  · subst h0
    have hy:ys=[]:=List.length_eq_zero_iff.1 (by simpa using hs.1)
    subst hy
    obtain ⟨i,z,hi,hz,hsz,hby,hzs⟩:=T.info
    refine ⟨b,c,w,?_,by simpa using h,Chg.refl _ _,.inl rfl⟩
    refine run_append_nothing w t t ty e i T.und hi b l c h.cap.1 _ ⟨.inl ⟨e,T.und⟩,fun _=>rfl,?_,?_,by simp,by simp⟩
    · cases sb with
      | none=>rfl
      | some a=>simp [Builtin.firstCells];rfl
    · cases sb with
      | none=>rfl
      | some a=>simp [Builtin.firstCells];rfl
  · exact own_appendV T h hs h1 (by omega) hb hn hm
end Go.Proofs.YtdamhidnlfjkdaaGreatDoor
