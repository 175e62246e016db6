/-
The reference of layer 6: a list of links; roads by a search in breadth.
Conditions: those that each theorem states.
-/
import Derived.Test.YtledchlbmilneaaDoorLawBfs
import Derived.Test.YtledchlbmilneaaDoorShPlaitref06
import Derived.Test.YtledchlbmilneaaDoorGLaw
import Derived.Deep.Upon
namespace Go.Proofs.YtledchlbmilneaaDoor
open Go Go.RowKit
set_option linter.unusedVariables false
set_option linter.unusedSimpArgs false
namespace Cut
open Go.Proofs.YtledchlbmilneaaDoor.Seq
/-- The cells of a list of links. -/
def pcs (Ls : List (Nat × Nat)) : List Value := Ls.flatMap fun p => [.int .i64 p.1, .int .i64 p.2]
theorem pcs_len (Ls : List (Nat × Nat)) : (pcs Ls).length = Ls.length * 2 := by
  unfold pcs; induction Ls with
  | nil => rfl
  | cons p Ls ih => rw [List.flatMap_cons, List.length_append, ih]; simp; omega
theorem pcs_app (A B : List (Nat × Nat)) : pcs (A ++ B) = pcs A ++ pcs B := by simp [pcs]
theorem pcs_get {Ls : List (Nat × Nat)} {i : Nat} {p : Nat × Nat} (h : Ls[i]? = some p) : (pcs Ls)[i * 2]? = some (.int .i64 p.1) ∧ (pcs Ls)[i * 2 + 1]? = some (.int .i64 p.2) := by
  induction Ls generalizing i with
  | nil => simp at h
  | cons q Ls ih =>
    have e : pcs (q :: Ls) = .int .i64 q.1 :: .int .i64 q.2 :: pcs Ls := rfl
    rw [e]
    cases i with
    | zero => simp at h; subst h; exact ⟨rfl, rfl⟩
    | succ i =>
      have := ih (by simpa using h)
      rw [show (i + 1) * 2 = i * 2 + 1 + 1 by omega]
      simpa using this
theorem ET_pair : ET Pg T_sl__2int T__2int 2 16 := ET.of (by kernel_rfl) (by kernel_rfl)
/-- A slice of links. -/
def LA (w : World) (b : Option Addr) (l : Nat) (Ls : List (Nat × Nat)) : Prop := Ls.length = l ∧ (l = 0 ∨ ∃ g o e cs, b = some ⟨g, o, none⟩ ∧ Row w.heap g e cs ∧ ∀ j u, (pcs Ls)[j]? = some u → cs[o + j]? = some u)
section
variable {w w' : World} {b : Option Addr} {l c i k : Nat} {Ls : List (Nat × Nat)} {p : Nat × Nat}
theorem LA.rd0 (h : LA w b l Ls) (hi : Ls[i]? = some p) {K : Int → Prop} (kk : K p.1) : ixS b l (i : Int) 2 fun a => ixA a 2 (0 : Int) 1 fun a' => ldI .i64 a' w K := by
  have hil := (List.getElem?_eq_some_iff.1 hi).1
  rcases h.2 with h0 | ⟨g, o, e, cs, rfl, hr, hc⟩
  · have := h.1; omega
  · refine ixS_i (by have := h.1; omega) (ixA_i (by omega) (ldI_r hr (hc _ _ ?_) kk))
    simpa using (pcs_get hi).1
theorem LA.rd1 (h : LA w b l Ls) (hi : Ls[i]? = some p) {K : Int → Prop} (kk : K p.2) : ixS b l (i : Int) 2 fun a => ixA a 2 (1 : Int) 1 fun a' => ldI .i64 a' w K := by
  have hil := (List.getElem?_eq_some_iff.1 hi).1
  rcases h.2 with h0 | ⟨g, o, e, cs, rfl, hr, hc⟩
  · have := h.1; omega
  · refine ixS_i (by have := h.1; omega) (ixA_i (by omega) (ldI_r (n := (p.2 : Int)) hr ?_ kk))
    have := hc _ _ (pcs_get hi).2
    simpa [Nat.add_assoc] using this
theorem LA.keep {S : Nat → Prop} (h : LA w b l Ls) (k : Chg S w w') (hS : ∀ g, bk b = some g → ¬ S g) : LA w' b l Ls := by
  obtain ⟨h1, h2⟩ := h
  refine ⟨h1, h2.imp id ?_⟩
  rintro ⟨g, o, e, cs, rfl, hr, hc⟩
  exact ⟨g, o, e, cs, rfl, k.row (hS g rfl) hr, hc⟩
theorem LA.nob (h : LA w b l Ls) (k : Chg Nobody w w') : LA w' b l Ls := h.keep k (fun _ _ h => h)
theorem LA.of_own {base : Nat} {e : TypeId} (h : Own w base e 2 b l c (pcs Ls)) : LA w b l Ls := by
  have hl := h.len
  rw [pcs_len] at hl
  refine ⟨by omega, ?_⟩
  by_cases h0 : l = 0
  · exact .inl h0
  · obtain ⟨g, cs, rfl, _, hr, ht, _, _⟩ := h.get (by omega)
    refine .inr ⟨g, 0, _, cs, rfl, hr, fun j u hu => ?_⟩
    have hj := (List.getElem?_eq_some_iff.1 hu).1
    rw [pcs_len] at hj
    rw [Nat.zero_add, own_cell ht (by omega)]; exact hu
theorem LA.pre (h : LA w b l Ls) (hk : k ≤ l) : LA w b k (Ls.take k) := by
  obtain ⟨h1, h2⟩ := h
  refine ⟨by simp; omega, ?_⟩
  rcases h2 with h2 | ⟨g, o, e, cs, rfl, hr, hc⟩
  · exact .inl (by omega)
  · refine .inr ⟨g, o, e, cs, rfl, hr, fun j u hu => hc j u ?_⟩
    have : pcs Ls = pcs (Ls.take k) ++ pcs (Ls.drop k) := by rw [← pcs_app, List.take_append_drop]
    rw [this, List.getElem?_append_left (List.getElem?_eq_some_iff.1 hu).1]; exact hu
theorem LA.post (h : LA w b l Ls) (hk : k ≤ l) : LA w (b.map fun a => a.add (k * 2)) (l - k) (Ls.drop k) := by
  obtain ⟨h1, h2⟩ := h
  refine ⟨by simp; omega, ?_⟩
  rcases h2 with h2 | ⟨g, o, e, cs, rfl, hr, hc⟩
  · exact .inl (by omega)
  · refine .inr ⟨g, o + k * 2, e, cs, by simp [add_mk], hr, fun j u hu => ?_⟩
    have hs : pcs Ls = pcs (Ls.take k) ++ pcs (Ls.drop k) := by rw [← pcs_app, List.take_append_drop]
    have hl : (pcs (Ls.take k)).length = k * 2 := by rw [pcs_len, List.length_take]; omega
    rw [Nat.add_assoc]
    refine hc _ u ?_
    rw [hs, List.getElem?_append_right (by omega), hl, show k * 2 + j - k * 2 = j by omega]; exact hu
theorem own_appendP {base : Nat} {sb : Option Addr} {sl sc : Nat} {xs : List Value} {Ps : List (Nat × Nat)} (h : Own w base T__2int 2 b l c xs) {ty : TypeId}
    (hs : LA w sb sl Ps) (hb : base ≤ w.heap.size) (hn : l + sl ≤ 100000000) :
    ∃ b' c' w', (Builtin.append_ #[T_sl__2int, T_sl__2int] ty #[.slice b l c, .slice sb sl sc]).run Pg w = .ok (.slice b' (l + sl) c') w' ∧ Own w' base T__2int 2 b' (l + sl) c' (xs ++ pcs Ps) ∧ Chg (fun k => bk b = some k) w w' ∧ (bk b' = bk b ∨ bk b' = some w.heap.size) := by
  obtain ⟨i, z, hi, hz, hsz, hby, hzs⟩ := ET_pair.info
  by_cases h0 : sl = 0
  · subst h0
    have hP : Ps = [] := List.length_eq_zero_iff.1 hs.1
    subst hP
    refine ⟨b, c, w, ?_, by simpa [pcs] using h, Chg.refl _ _, .inl rfl⟩
    rw [Nat.add_zero]
    refine run_append_nothing w _ _ ty _ i ET_pair.und hi b l c h.cap.1 _ ⟨.inl ⟨_, ET_pair.und⟩, fun _ => rfl, ?_, ?_, by simp, by simp⟩
    · cases sb with
      | none => rfl
      | some a => simp [Builtin.firstCells]; rfl
    · cases sb with
      | none => rfl
      | some a => simp [Builtin.firstCells]; rfl
  rcases hs.2 with h1 | ⟨g, o, e', cs, rfl, hr, hc⟩
  · omega
  have hA := hs.1
  obtain ⟨v', w', hr', ho, hg, _, hw⟩ := run_append_own_at w base _ ty _ i z 2 16 ET_pair.und hi hz hsz hby hzs ET_pair.pos (.slice b l c) l xs h ⟨g, o, none⟩ sl sc (pcs Ps) (by rw [pcs_len, hA])
    (fun j u hu => by rw [add_mk, hr.cell]; exact hc j u hu) (fun u hu => by
      unfold pcs at hu
      obtain ⟨p, _, hp⟩ := List.mem_flatMap.1 hu
      simp at hp; rcases hp with rfl | rfl <;> rfl) (by unfold maxLen; omega) (by omega) hb
  have hv : ∃ b' c', v' = .slice b' (l + sl) c' := by
    rcases ho.2 with ⟨hv, hn⟩ | ⟨g, cap, cur, hv, _⟩
    · omega
    · exact ⟨_, _, hv⟩
  obtain ⟨b', c', rfl⟩ := hv
  rw [ownBlock_bk, ownBlock_bk] at hw
  refine ⟨b', c', w', hr', ho, ⟨hg.os, hg.tape, hg.output, hg.size, fun k hk hS => hg.block k hk ?_⟩, hw⟩
  rw [ownBlock_bk]; exact fun e => hS e.symm
/-! ## Find, Without -/
/-- Is it this link, either way round? -/
def isL (x y : Nat) (p : Nat × Nat) : Prop := (p.1 = x ∧ p.2 = y) ∨ (p.1 = y ∧ p.2 = x)
theorem c_rFind06 {x y : Nat} (h : LA w b l Ls) (hl : l ≤ 100000000) :
    Calls Pg fn_plaitref06_Find #[.slice b l c, .int .i64 x, .int .i64 y] w fun e w' => w' = w ∧ ((∃ i p, e = .returned (.int .i64 (i : Nat)) ∧ Ls[i]? = some p ∧ isL x y p) ∨ (e = .returned (.int .i64 (-1)) ∧ ∀ p ∈ Ls, ¬ isL x y p)) := by
  refine (calls_plaitref06_Find _ _ _ _ _ _ (fun v' w' => w' = w ∧ ((∃ i p, v' = .int .i64 (i : Nat) ∧ Ls[i]? = some p ∧ isL x y p) ∨ (v' = .int .i64 (-1) ∧ ∀ p ∈ Ls, ¬ isL x y p))) ?_).mono (by
    rintro e w' ⟨v, rfl, hw, ⟨i, p, rfl, k⟩ | ⟨rfl, k⟩⟩
    · exact ⟨hw, .inl ⟨i, p, rfl, k⟩⟩
    · exact ⟨hw, .inr ⟨rfl, k⟩⟩)
  unfold sh_plaitref06_Find
  let J : Nat → List Value → World → Prop := fun j vs w' => ∃ i : Nat, vs = [.int .i64 i] ∧ i ≤ l ∧ w' = w ∧ (∀ k p, k < i → Ls[k]? = some p → ¬ isL x y p) ∧ j = l - i
  refine ⟨LI J, LM J, ⟨_, 0, rfl, by omega, rfl, fun k p hk => by omega, rfl⟩, ?_⟩
  intro _ n5 w6 hJ
  obtain ⟨i, hvs, hi, rfl, hno, hj⟩ := hJ.at
  simp only [List.cons.injEq, Value.int.injEq, and_true, true_and] at hvs
  subst hvs
  refine bif_i (fun hc => ?_) (fun hc => ?_) <;> simp only [b1s] at hc
  · obtain ⟨p, hp⟩ : ∃ p, Ls[i]? = some p := ⟨_, List.getElem?_eq_getElem (by rw [h.1]; omega)⟩
    have again : ¬ isL x y p → LI J [.int .i64 (IntKind.wrap .i64 ((i : Int) + 1))] w6 ∧ LM J [.int .i64 (IntKind.wrap .i64 ((i : Int) + 1))] w6 < LM J [.int .i64 (i : Int)] w6 := fun hn => by
      rw [wrap64_in (x := (i : Int) + 1) (by omega) (by omega)]
      refine LI.again (k := l - (i + 1)) ⟨i + 1, rfl, by omega, rfl, fun k q hk hq => ?_, rfl⟩ (by rw [hj]; omega)
      by_cases e : k = i
      · subst e; rw [hp] at hq; cases hq; exact hn
      · exact hno k q (by omega) hq
    have yes : isL x y p → w6 = w6 ∧ ((∃ (i' : Nat) (q : Nat × Nat), Value.int .i64 (i : Int) = .int .i64 (i' : Nat) ∧ Ls[i']? = some q ∧ isL x y q) ∨ (Value.int .i64 (i : Int) = .int .i64 (-1) ∧ ∀ p ∈ Ls, ¬ isL x y p)) := fun hy => ⟨rfl, .inl ⟨i, p, rfl, hp, hy⟩⟩
    have second : ¬ (p.1 = x ∧ p.2 = y) → ixS b l (i : Int) 2 fun a33 => ixA a33 2 (0 : Int) 1 fun a34 => ldI .i64 a34 w6 fun n35 =>
        bif (n35 == (y : Int)) then (ixS b l (i : Int) 2 fun a41 => ixA a41 2 (1 : Int) 1 fun a42 => ldI .i64 a42 w6 fun n43 =>
          bif (n43 == (x : Int)) then (w6 = w6 ∧ ((∃ (i' : Nat) (q : Nat × Nat), Value.int .i64 (i : Int) = .int .i64 (i' : Nat) ∧ Ls[i']? = some q ∧ isL x y q) ∨ (Value.int .i64 (i : Int) = .int .i64 (-1) ∧ ∀ p ∈ Ls, ¬ isL x y p)))
          else (LI J [.int .i64 (IntKind.wrap .i64 ((i : Int) + 1))] w6 ∧ LM J [.int .i64 (IntKind.wrap .i64 ((i : Int) + 1))] w6 < LM J [.int .i64 (i : Int)] w6))
        else (LI J [.int .i64 (IntKind.wrap .i64 ((i : Int) + 1))] w6 ∧ LM J [.int .i64 (IntKind.wrap .i64 ((i : Int) + 1))] w6 < LM J [.int .i64 (i : Int)] w6) := fun h1 => by
      refine h.rd0 hp (bif_i (fun h2 => ?_) (fun h2 => ?_)) <;> simp only [b1s] at h2
      · refine h.rd1 hp (bif_i (fun h3 => ?_) (fun h3 => ?_)) <;> simp only [b1s] at h3
        · exact yes (.inr ⟨by omega, by omega⟩)
        · exact again (fun hy => by rcases hy with hy | hy; exact h1 hy; omega)
      · exact again (fun hy => by rcases hy with hy | hy; exact h1 hy; omega)
    refine h.rd0 hp (bif_i (fun h1 => ?_) (fun h1 => ?_)) <;> simp only [b1s] at h1
    · refine h.rd1 hp (bif_i (fun h2 => ?_) (fun h2 => ?_)) <;> simp only [b1s] at h2
      · exact yes (.inl ⟨by omega, by omega⟩)
      · exact second (by omega)
    · exact second (by omega)
  · refine ⟨rfl, .inr ⟨rfl, fun p hp => ?_⟩⟩
    obtain ⟨k, hk⟩ := List.getElem?_of_mem hp
    exact hno k p (by have := (List.getElem?_eq_some_iff.1 hk).1; rw [h.1] at this; omega) hk
theorem c_rWithout06 (h : LA w b l Ls) (hlc : l ≤ c) (hi : i < l) (hl : l ≤ 1000000) :
    Calls Pg fn_plaitref06_Without #[.slice b l c, .int .i64 i] w fun e w' => ∃ rb rc, e = .returned (.slice rb (l - 1) rc) ∧ Own w' w.heap.size T__2int 2 rb (l - 1) rc (pcs (Ls.take i ++ Ls.drop (i + 1))) ∧ Chg Nobody w w' := by
  refine (calls_plaitref06_Without _ _ _ _ _ (fun v' w' => ∃ rb rc, v' = .slice rb (l - 1) rc ∧ Own w' w.heap.size T__2int 2 rb (l - 1) rc (pcs (Ls.take i ++ Ls.drop (i + 1))) ∧ Chg Nobody w w') ?_).mono (by rintro e w' ⟨v, rfl, b, c, rfl, k⟩; exact ⟨b, c, rfl, k⟩)
  unfold sh_plaitref06_Without
  rw [wrap64_in (x := (i : Int) + 1) (by omega) (by omega)]
  refine ⟨by omega, by omega, by omega, by omega, ?_⟩
  have e0 : (if c = 0 then b else Option.map (fun a => Addr.add a (0 * 2)) b) = b := by
    split
    · rfl
    · cases b with
      | none => rfl
      | some a => simp [Addr.add]
  rw [e0, show Int.toNat (i : Int) = i by omega, show Int.toNat ((i : Int) + 1) = i + 1 by omega]
  simp only [Nat.sub_zero]
  obtain ⟨b1, c1, w3, hr1, ho1, hc1, _⟩ := own_appendP (sc := c) (ty := T_sl__2int) (base := w.heap.size) (w := w.drew) Own.nil ((h.nob (Chg.refl _ w).drew).pre (k := i) (by omega)) (Nat.le_refl _) (by omega)
  have hc1' : Chg Nobody w w3 := (Chg.refl _ w).drew.trans (hc1.mono (fun k _ h => by simp [bk] at h))
  rw [Nat.zero_add] at hr1 ho1
  refine ⟨b1, i, c1, w3, hr1, ?_⟩
  have hpost : LA w3 (if c = i + 1 then b else Option.map (fun a => Addr.add a ((i + 1) * 2)) b) (l - (i + 1)) (Ls.drop (i + 1)) := by
    split
    · have : l - (i + 1) = 0 := by omega
      rw [this]; exact ⟨by simp [h.1]; omega, .inl rfl⟩
    · exact (h.nob hc1').post (k := i + 1) (by omega)
  obtain ⟨b2, c2, w5, hr2, ho2, hc2, _⟩ := own_appendP (sc := c - (i + 1)) (ty := T_sl__2int) ho1 hpost hc1'.size (by omega)
  rw [show i + (l - (i + 1)) = l - 1 by omega] at hr2 ho2
  refine ⟨_, _, _, w5, hr2, b2, c2, rfl, ?_, hc1'.trans' hc2 (fun k hk => .inr (ho1.bk_lt hk).1)⟩
  rw [pcs_app]
  simpa using ho2
/-! ## The search in breadth -/
/-- The search's state in memory: from where each was reached; what is reached. -/
structure BS (w : World) (B n a : Nat) (E : Nat → Nat → Prop) (fr : Nat → Int) (all : List Nat) (ob : Option Addr) (ol oc : Nat) : Prop where
  row : Row w.heap B T_int (nums n fr)
  own : Own w (B + 1) T_int 1 ob ol oc (ivs all)
  bf : BF n a E fr all
theorem BS.len {B n a ol oc : Nat} {E : Nat → Nat → Prop} {fr : Nat → Int} {all : List Nat} {ob : Option Addr} (h : BS w B n a E fr all ob ol oc) : all.length = ol := by
  have := h.own.len
  simp [ivs] at this; omega
theorem BS.nob {B n a ol oc : Nat} {E : Nat → Nat → Prop} {fr : Nat → Int} {all : List Nat} {ob : Option Addr} (h : BS w B n a E fr all ob ol oc) (k : Chg Nobody w w') : BS w' B n a E fr all ob ol oc :=
  ⟨k.row (fun h => h) h.row, h.own.keep k (fun _ _ h => h), h.bf⟩
theorem nums_at {n x : Nat} {fr : Nat → Int} (hx : x < n) : (nums n fr)[x]? = some (.int .i64 (fr x)) := by
  unfold nums; rw [List.getElem?_map, List.getElem?_range hx]; rfl
theorem fr_rd {B n x : Nat} {fr : Nat → Int} (h : Row w.heap B T_int (nums n fr)) (hx : x < n) {K : Int → Prop} (kk : K (fr x)) : ixS (some ⟨B, 0, none⟩) n (x : Int) 1 fun a => ldI .i64 a w K :=
  ixS_i hx (ldI_r h (by rw [Nat.zero_add, Nat.mul_one]; exact nums_at hx) kk)
theorem all_rd {B n a ol oc j x : Nat} {E : Nat → Nat → Prop} {fr : Nat → Int} {all : List Nat} {ob : Option Addr} (h : BS w B n a E fr all ob ol oc) (hx : all[j]? = some x) {K : Int → Prop} (kk : K (x : Int)) : ixS ob ol (j : Int) 1 fun a => ldI .i64 a w K := by
  have hl := h.len
  have hj := (List.getElem?_eq_some_iff.1 hx).1
  obtain ⟨g, cs, rfl, _, hr, ht, _, _⟩ := h.own.get (by omega)
  refine ixS_i (by omega) (ldI_r hr ?_ kk)
  rw [Nat.zero_add, Nat.mul_one, own_cell ht (by omega)]
  simp [ivs, hx]
/-- One end of a link looked at. -/
theorem visit {B n a ol oc i p q cur : Nat} {E : Nat → Nat → Prop} {fr : Nat → Int} {all : List Nat} {ob : Option Addr} {w₀ : World} (h : BS w B n a E fr all ob ol oc) (hw : Chg Nobody w₀ w) (hB : w₀.heap.size ≤ B) (hcur : all[i]? = some cur) (hq : q < n) (hE : p = cur → E p q) (hn : n ≤ 8388608)
    {K : Option Addr → Nat → Nat → World → Prop}
    (hK : ∀ (fr' : Nat → Int) (all' : List Nat) (ob' : Option Addr) (ol' oc' : Nat) (w' : World), BS w' B n a E fr' all' ob' ol' oc' → Chg Nobody w₀ w' → (∀ j x : Nat, all[j]? = some x → all'[j]? = some x) → (p = cur → q ∈ all') → K ob' ol' oc' w') :
    bif ((p : Int) == (cur : Int)) then (ixS (some ⟨B, 0, none⟩) n (q : Int) 1 fun a64 => ldI .i64 a64 w fun n65 =>
      bif (decide (n65 < (0 : Int))) then (ixS (some ⟨B, 0, none⟩) n (q : Int) 1 fun a71 => sto a71 (.int .i64 (p : Int)) w fun w37 => alo #[.int .i64 (q : Int)] T_int w37 fun a38 w39 =>
        ∃ s75b : Option Addr, ∃ s75l : Nat, ∃ s75c : Nat, ∃ w41 : World, (Builtin.append_ #[T_sl_int, T_sl_int] T_sl_int #[.slice ob ol oc, .slice (some a38) 1 1]).run Pg w39 = .ok (.slice s75b s75l s75c) w41 ∧ K s75b s75l s75c w41)
      else K ob ol oc w) else K ob ol oc w := by
  have hl := h.len
  refine bif_i (fun hc => ?_) (fun hc => ?_) <;> simp only [b1s] at hc
  · have hpc : p = cur := by omega
    refine fr_rd h.row hq (bif_i (fun h2 => ?_) (fun h2 => ?_)) <;> simp only [b1s] at h2
    · refine ixS_i hq (sto_r h.row (by rw [Nat.zero_add, Nat.mul_one]; simp [nums]; omega) rfl fun hr2 => alo_r fun hr3 => ?_)
      rw [Nat.zero_add, Nat.mul_one, nums_set] at hr2
      rw [Nat.zero_add, Nat.mul_one] at hr3 ⊢
      have hc2 : Chg (· = B) w (w.setCell ⟨B, q, none⟩ (.int .i64 (p : Int))) := (Chg.refl _ _).setCell _ _ (.inl rfl)
      have ho2 := h.own.keep hc2 (fun g hg (e : g = B) => by have := (h.own.bk_lt hg).1; omega)
      have hBlt := h.row.lt
      have hsz := hc2.size
      have hlen2 : all.length ≤ n := nodup_len h.bf.nd h.bf.lt
      obtain ⟨b', c', w41, hrun, ho', hc3, _⟩ := own_append2 (ty := T_sl_int) ET_int (ho2.alloc (.cells #[.int .i64 (q : Int)] T_int)) hr3 rfl (by simp [oneC]) (by show B + 1 ≤ (World.heap _).size; simp [World.alloc]; omega) (by omega) (by omega)
      refine ⟨b', _, c', w41, hrun, ?_⟩
      refine hK (upd fr q (p : Int)) (all ++ [q]) _ _ _ _ ⟨?_, ?_, h.bf.push (i := i) (by rw [hpc]; exact hcur) (hE hpc) hq h2⟩ ?_ ?_ (fun _ => by simp)
      · exact hc3.row (fun hk => by have := (h.own.bk_lt hk).1; omega) (hr2.alloc _)
      · have e : ivs (all ++ [q]) = ivs all ++ [.int .i64 (q : Int)] := by simp [ivs]
        rw [e]; exact ho'
      · exact ((hw.trans' hc2 (fun k e => .inr (by omega))).alloc _).trans' hc3 (fun k hk => .inr (by have := (h.own.bk_lt hk).1; omega))
      · intro j x hj
        rw [List.getElem?_append_left (List.getElem?_eq_some_iff.1 hj).1]; exact hj
    · exact hK _ _ _ _ _ _ h hw (fun _ _ h => h) (fun _ => (h.bf.mem q hq).1 (by omega))
  · exact hK _ _ _ _ _ _ h hw (fun _ _ h => h) (fun e => absurd (by omega) hc)
theorem c_rRoad06 {n a b sc : Nat} {sb : Option Addr} (h : LA w sb l Ls) (hLs : ∀ p ∈ Ls, p.1 < n ∧ p.2 < n) (ha : a < n) (hb : b < n) (hn : n ≤ 1000000) (hl : l ≤ 1000000) :
    Calls Pg fn_plaitref06_Road #[.int .i64 n, .slice sb l sc, .int .i64 a, .int .i64 b] w fun e w' => ∃ (A : List Nat) (ob : Option Addr) (oc : Nat), e = .returned (.slice ob A.length oc) ∧ ((A = [] ∧ ¬ ∃ l, Way (EL Ls) a b l) ∨ Way (EL Ls) a b A) ∧ IA w' ob A.length (ints A) ∧
      (∀ k, bk ob = some k → w.heap.size ≤ k) ∧ Chg Nobody w w' := by
  refine (calls_plaitref06_Road _ _ _ _ _ _ _ (fun v' w' => ∃ (A : List Nat) (ob : Option Addr) (oc : Nat), v' = .slice ob A.length oc ∧ ((A = [] ∧ ¬ ∃ l, Way (EL Ls) a b l) ∨ Way (EL Ls) a b A) ∧ IA w' ob A.length (ints A) ∧ (∀ k, bk ob = some k → w.heap.size ≤ k) ∧ Chg Nobody w w') ?_).mono
    (by rintro e w' ⟨v, rfl, A, ob, oc, rfl, k⟩; exact ⟨A, ob, oc, rfl, k⟩)
  unfold sh_plaitref06_Road
  refine ⟨by omega, by omega, by omega, ?_⟩
  rw [show Int.toNat (n : Int) = n by omega]
  refine alo_r fun hrow => ?_
  rw [zerosOf_recs, zeros_nums] at hrow
  have hch : Chg Nobody w (w.alloc (.cells (zerosOf #[.int .i64 0] n) T_int)) := (Chg.refl _ _).alloc _
  obtain ⟨B, hBw⟩ : ∃ B, B = w.heap.size := ⟨_, rfl⟩
  rw [← hBw] at hrow ⊢
  have hB : w.heap.size ≤ B := by omega
  generalize w.alloc (.cells (zerosOf #[.int .i64 0] n) T_int) = w5 at *
  let J : Nat → List Value → World → Prop := fun j vs w' => ∃ i : Nat, vs = [.int .i64 i] ∧ i ≤ n ∧ Row w'.heap B T_int (nums n (fun x => if x < i then -1 else 0)) ∧ Chg Nobody w w' ∧ j = n - i
  refine ⟨LI J, LM J, ⟨_, 0, rfl, by omega, by simpa using hrow, hch, rfl⟩, ?_⟩
  clear hrow hch
  intro _ n8 w9 hJ
  obtain ⟨i, hvs, hi, hrow, hch, hj⟩ := hJ.at
  simp only [List.cons.injEq, Value.int.injEq, and_true, true_and] at hvs
  subst hvs
  refine bif_i (fun hc => ?_) (fun hc => ?_) <;> simp only [b1s] at hc
  · refine ixS_i (by omega) (sto_r hrow (by rw [Nat.zero_add, Nat.mul_one]; simp [nums]; omega) rfl fun hr => ?_)
    rw [Nat.zero_add, Nat.mul_one, nums_set, upd_lt] at hr
    rw [Nat.zero_add, Nat.mul_one, wrap64_in (x := (i : Int) + 1) (by omega) (by omega)]
    exact LI.again (k := n - (i + 1)) ⟨i + 1, rfl, by omega, hr, hch.setCell _ _ (.inr hB), rfl⟩ (by rw [hj]; omega)
  have hin : i = n := by omega
  subst hin
  clear hJ hj hc hi
  refine ixS_i ha (sto_r hrow (by rw [Nat.zero_add, Nat.mul_one]; simp [nums]; omega) rfl fun hr => alo_r fun hr2 => ?_)
  rw [Nat.zero_add, Nat.mul_one, nums_set] at hr
  rw [Nat.zero_add, Nat.mul_one] at hr2 ⊢
  have hBlt := hrow.lt
  have hc2 : Chg Nobody w (w9.setCell ⟨B, a, none⟩ (.int .i64 (a : Int))) := hch.setCell _ _ (.inr hB)
  have hsz2 : (w9.setCell ⟨B, a, none⟩ (.int .i64 (a : Int))).heap.size = w9.heap.size := by simp [World.setCell]
  have hS0 : BS ((w9.setCell ⟨B, a, none⟩ (.int .i64 (a : Int))).alloc (.cells #[.int .i64 (a : Int)] T_int)) B i a (EL Ls) (upd (fun x => if x < i then -1 else 0) a (a : Int)) [a] (some ⟨(w9.setCell ⟨B, a, none⟩ (.int .i64 (a : Int))).heap.size, 0, none⟩) 1 1 :=
    ⟨hr.alloc _, own_one hr2 (by omega), BF.init ha (fun x hx => by simp [hx])⟩
  have hcS := hc2.alloc (.cells #[.int .i64 (a : Int)] T_int)
  let J16 : Nat → List Value → World → Prop := fun j vs w' => ∃ (u : Nat) (fr : Nat → Int) (all : List Nat) (ob : Option Addr) (ol oc : Nat), vs = [.slice ob ol oc, .int .i64 u] ∧ BS w' B i a (EL Ls) fr all ob ol oc ∧ Chg Nobody w w' ∧ u ≤ all.length ∧
    (∀ k x, k < u → all[k]? = some x → ∀ y, EL Ls x y → y ∈ all) ∧ j = i - u
  refine ⟨LI J16, LM J16, ⟨_, 0, _, _, _, _, _, rfl, hS0, hcS, by simp, fun k x hk => by omega, rfl⟩, ?_⟩
  clear hS0 hcS hr hr2 hc2 hsz2 hrow hch hBlt
  intro _ s18b s18l s18c n19 w20 hJ
  obtain ⟨u, fr, all, ob, ol, oc, hvs, hS, hch, hu, hcl, hj⟩ := hJ.at
  simp only [List.cons.injEq, Value.slice.injEq, Value.int.injEq, and_true, true_and] at hvs
  obtain ⟨⟨rfl, rfl, rfl⟩, rfl⟩ := hvs
  have hlen := hS.len
  have hln : all.length ≤ i := nodup_len hS.bf.nd hS.bf.lt
  refine bif_i (fun hc => ?_) (fun hc => ?_) <;> simp only [b1s] at hc
  · obtain ⟨cur, hcur⟩ : ∃ cur, all[u]? = some cur := ⟨_, List.getElem?_eq_getElem (by omega)⟩
    let J21 : Nat → List Value → World → Prop := fun j vs w' => ∃ (k : Nat) (fr' : Nat → Int) (all' : List Nat) (ob : Option Addr) (ol oc : Nat), vs = [.slice ob ol oc, .int .i64 k] ∧ BS w' B i a (EL Ls) fr' all' ob ol oc ∧ Chg Nobody w w' ∧ k ≤ l ∧
      (∀ j x : Nat, all[j]? = some x → all'[j]? = some x) ∧ (∀ (q : Nat) (p : Nat × Nat), q < k → Ls[q]? = some p → (p.1 = cur → p.2 ∈ all') ∧ (p.2 = cur → p.1 ∈ all')) ∧ j = l - k
    refine ⟨LI J21, LM J21, ⟨_, 0, _, _, _, _, _, rfl, hS, hch, by omega, fun _ _ h => h, fun q p hq => by omega, rfl⟩, ?_⟩
    clear hS hch
    intro _ s23b s23l s23c n24 w25 hJ2
    obtain ⟨k, fr', all', ob, ol, oc, hvs, hS, hch, hk, hpre, hdone, hj2⟩ := hJ2.at
    simp only [List.cons.injEq, Value.slice.injEq, Value.int.injEq, and_true, true_and] at hvs
    obtain ⟨⟨rfl, rfl, rfl⟩, rfl⟩ := hvs
    refine bif_i (fun hc2 => ?_) (fun hc2 => ?_) <;> simp only [b1s] at hc2
    · obtain ⟨p, hp⟩ : ∃ p, Ls[k]? = some p := ⟨_, List.getElem?_eq_getElem (by rw [h.1]; omega)⟩
      have hpm := List.mem_of_getElem? hp
      obtain ⟨hp1, hp2⟩ := hLs p hpm
      have hd : Chg Nobody w w25.drew := hch.drew
      have hSd := hS.nob (Chg.refl _ w25).drew
      refine (h.nob hd).rd0 hp ((h.nob hd).rd1 hp (all_rd hSd (hpre u cur hcur) ?_))
      refine visit (i := u) (p := p.1) (q := p.2) hSd hd hB (hpre u cur hcur) hp2 (fun _ => .inl hpm) (by omega) ?_
      intro fr2 all2 ob2 ol2 oc2 w2 hS2 hch2 hpre2 hin2
      refine all_rd hS2 (hpre2 u cur (hpre u cur hcur)) ?_
      refine visit (i := u) (p := p.2) (q := p.1) hS2 hch2 hB (hpre2 u cur (hpre u cur hcur)) hp1 (fun _ => .inr hpm) (by omega) ?_
      intro fr3 all3 ob3 ol3 oc3 w3 hS3 hch3 hpre3 hin3
      have sub : ∀ {A B : List Nat} {z : Nat}, (∀ j x : Nat, A[j]? = some x → B[j]? = some x) → z ∈ A → z ∈ B := fun h hz => by
        obtain ⟨j, hj⟩ := List.getElem?_of_mem hz
        exact List.mem_of_getElem? (h j _ hj)
      rw [wrap64_in (x := (k : Int) + 1) (by omega) (by omega)]
      refine LI.again (k := l - (k + 1)) ⟨k + 1, fr3, all3, ob3, ol3, oc3, rfl, hS3, hch3, by omega, fun j x hj => hpre3 j x (hpre2 j x (hpre j x hj)), fun q r hq hr => ?_, rfl⟩ (by rw [hj2]; omega)
      by_cases e : q = k
      · subst e
        rw [hp] at hr; cases hr
        exact ⟨fun e => sub hpre3 (hin2 e), hin3⟩
      · obtain ⟨d1, d2⟩ := hdone q r (by omega) hr
        exact ⟨fun e => sub hpre3 (sub hpre2 (d1 e)), fun e => sub hpre3 (sub hpre2 (d2 e))⟩
    · have hkl : k = l := by omega
      subst hkl
      have hlen' := hS.len
      have hul : u < all'.length := (List.getElem?_eq_some_iff.1 (hpre u cur hcur)).1
      have hln' : all'.length ≤ i := nodup_len hS.bf.nd hS.bf.lt
      rw [wrap64_in (x := (u : Int) + 1) (by omega) (by omega)]
      refine LI.again (k := i - (u + 1)) ⟨u + 1, fr', all', _, _, _, rfl, hS, hch, by omega, fun j x hju hx y hE => ?_, rfl⟩ (by rw [hj]; omega)
      by_cases e : j = u
      · subst e
        rw [hpre j cur hcur] at hx; cases hx
        rcases hE with hE | hE
        · obtain ⟨q, hq⟩ := List.getElem?_of_mem hE
          exact (hdone q _ (by have := (List.getElem?_eq_some_iff.1 hq).1; have := h.1; omega) hq).1 rfl
        · obtain ⟨q, hq⟩ := List.getElem?_of_mem hE
          exact (hdone q _ (by have := (List.getElem?_eq_some_iff.1 hq).1; have := h.1; omega) hq).2 rfl
      · have hju' : j < u := by omega
        obtain ⟨x', hx'⟩ : ∃ x', all[j]? = some x' := ⟨_, List.getElem?_eq_getElem (by omega)⟩
        have := hpre j x' hx'
        rw [hx] at this; cases this
        have hy := hcl j x hju' hx' y hE
        obtain ⟨j', hj'⟩ := List.getElem?_of_mem hy
        exact List.mem_of_getElem? (hpre j' _ hj')
  -- all is reached
  have hclosed : ∀ x ∈ all, ∀ y, EL Ls x y → y ∈ all := fun x hx y hE => by
    obtain ⟨j, hj⟩ := List.getElem?_of_mem hx
    exact hcl j x (by have := (List.getElem?_eq_some_iff.1 hj).1; omega) hj y hE
  refine fr_rd hS.row hb (bif_i (fun h2 => ?_) (fun h2 => ?_)) <;> simp only [b1s] at h2
  · refine ⟨[], none, 0, rfl, .inl ⟨rfl, fun ⟨l', hl'⟩ => ?_⟩, ⟨rfl, .inl rfl⟩, (fun k hk => by cases hk), hch⟩
    have hbm := closed_way hclosed l' a hl'.hd (List.mem_of_getElem? hS.bf.hd) hl'.lk b (List.mem_of_getLast? hl'.la)
    have := (hS.bf.mem b hb).2 hbm
    omega
  · have hbm := (hS.bf.mem b hb).1 (by omega)
    obtain ⟨jb, hjb⟩ := List.getElem?_of_mem hbm
    refine alo_r fun hr => ?_
    have hBlt := hS.row.lt
    let J76 : Nat → List Value → World → Prop := fun j vs w' => ∃ (out : List Nat) (x : Nat) (ob : Option Addr) (oc : Nat), vs = [.slice ob out.length oc] ∧ OUT (EL Ls) all b out j x ∧ Own w' (B + 1) T_int 1 ob out.length oc (ivs out) ∧ Row w'.heap B T_int (nums i fr) ∧ Chg Nobody w w'
    refine ⟨LI J76, LM J76, ⟨jb, [b], b, _, _, rfl, OUT.start hjb, own_one hr (by omega), hS.row.alloc _, hch.alloc _⟩, ?_⟩
    clear hr
    intro _ s78b s78l s78c w79 hJ3
    obtain ⟨out, x, ob, oc, hvs, hO, hown, hrow, hch3⟩ := hJ3.at
    simp only [List.cons.injEq, Value.slice.injEq, and_true] at hvs
    obtain ⟨rfl, rfl, rfl⟩ := hvs
    have hx0 : out[0]? = some x := by have := hO.hd; rwa [List.head?_eq_getElem?] at this
    have hl0 : 0 < out.length := (List.getElem?_eq_some_iff.1 hx0).1
    have hout : out.length ≤ i := by
      refine nodup_len hO.nd fun z hz => ?_
      obtain ⟨i', _, hi'⟩ := hO.ix z hz
      exact hS.bf.lt z (List.mem_of_getElem? hi')
    have hia : IA w79 s78b out.length (ints out) := IA.of_own hown (by simp [ivs, Function.comp_def])
    have hxi : (ints out)[0]? = some (x : Int) := by rw [List.getElem?_map, hx0]; rfl
    have hxn : x < i := hS.bf.lt x (List.mem_of_getElem? hO.at_)
    refine hia.rd (i := 0) hxi ?_
    refine bif_i (fun hne => ?_) (fun hne => ?_) <;> simp only [b1s] at hne
    · obtain ⟨i', y, hij, hf, hyn, hO'⟩ := hO.step hS.bf (by omega)
      refine hia.rd (i := 0) hxi (fr_rd hrow hxn ?_)
      rw [hf]
      refine alo_r fun hr => ?_
      have hBlt3 := hrow.lt
      obtain ⟨b', c', w89, hrun, ho', hc4, _⟩ := own_appendN (sc := s78c) (ty := T_sl_int) (base := B + 1) ET_int (own_one hr (by omega)) (hia.nob ((Chg.refl _ _).alloc (.cells #[.int .i64 (y : Int)] T_int))) hl0 (Nat.le_trans (show B + 1 ≤ w79.heap.size by omega) (Chg.size ((Chg.refl Nobody w79).alloc (.cells #[.int .i64 (y : Int)] T_int)))) (by omega) (by omega)
      refine ⟨b', _, c', w89, hrun, ?_⟩
      have e1 : ([Value.int .i64 (y : Int)] ++ (ints out).map (Value.int .i64)) = ivs (y :: out) := by simp [ivs, Function.comp_def]
      rw [e1] at ho'
      have e2 : 1 + out.length = (y :: out).length := by simp; omega
      rw [e2] at ho' ⊢
      refine LI.again (k := i') ⟨y :: out, y, b', c', rfl, hO', ho', hc4.row (fun hk => ?_) (hrow.alloc _), (hch3.alloc _).trans' hc4 (fun k hk => .inr ?_)⟩ hij
      · simp [bk] at hk; omega
      · simp [bk] at hk; have := hch3.size; omega
    · have hxa : x = a := by omega
      subst hxa
      exact ⟨out, s78b, s78c, rfl, .inr hO.way, hia, fun k hk => by have := (hown.bk_lt hk).1; omega, hch3⟩
end
end Cut
end Go.Proofs.YtledchlbmilneaaDoor
