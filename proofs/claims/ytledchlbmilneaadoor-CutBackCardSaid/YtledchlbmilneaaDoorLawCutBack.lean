/-
The law CutBack: what is linked, and cut again, is as it was; what is cut, and linked again, too.
Conditions: the package variable of errors is laid out; the acts can be read.
-/
import Derived.Test.YtledchlbmilneaaDoorLawCutNew
namespace Go.Proofs.YtledchlbmilneaaDoor
open Go Go.RowKit
set_option linter.unusedVariables false
set_option linter.unusedSimpArgs false
namespace Cut
open Go.Proofs.YtledchlbmilneaaDoor.Seq
/-! ## Lists kept, the empty ones nil -/
def EZ (w : World) (bad : Nat → Prop) (v : Value) (A : List Nat) : Prop := (A = [] ∧ v = .slice none 0 0) ∨ El w bad v A
def OZ (w : World) (bad : Nat → Prop) (xs : List Value) (X : List (List Nat)) : Prop := xs.length = X.length ∧ ∀ (i : Nat) (A : List Nat), X[i]? = some A → ∃ v, xs[i]? = some v ∧ EZ w bad v A
section
variable {w w' : World} {bad bad' : Nat → Prop} {b b' : Option Addr} {l c base : Nat} {X : List (List Nat)} {A : List Nat} {xs : List Value} {v : Value}
theorem EZ.chg {S : Nat → Prop} (h : EZ w bad v A) (k : Chg S w w') (hS : ∀ i, i < w.heap.size → S i → bad i) (hb : ∀ i, i < w.heap.size → bad' i → bad i) : EZ w' bad' v A := h.imp id (fun h => h.chg k hS hb)
theorem OZ.chg {S : Nat → Prop} (h : OZ w bad xs X) (k : Chg S w w') (hS : ∀ i, i < w.heap.size → S i → bad i) (hb : ∀ i, i < w.heap.size → bad' i → bad i) : OZ w' bad' xs X :=
  ⟨h.1, fun i A hA => let ⟨v, h1, h2⟩ := h.2 i A hA; ⟨v, h1, h2.chg k hS hb⟩⟩
theorem OZ.nil : OZ w bad [] [] := ⟨rfl, fun i A h => by simp at h⟩
theorem OZ.snoc (h : OZ w bad xs X) (k : EZ w bad v A) : OZ w bad (xs ++ [v]) (X ++ [A]) := by
  refine ⟨by simp [h.1], fun i B hB => ?_⟩
  by_cases hi : i < X.length
  · rw [List.getElem?_append_left hi] at hB
    obtain ⟨u, h1, h2⟩ := h.2 i B hB
    exact ⟨u, by rw [List.getElem?_append_left (by rw [h.1]; exact hi)]; exact h1, h2⟩
  · have hlt := (List.getElem?_eq_some_iff.1 hB).1
    rw [List.length_append, List.length_singleton] at hlt
    have hi' : i = X.length := by omega
    subst hi'
    rw [List.getElem?_append_right (Nat.le_refl _), Nat.sub_self] at hB
    simp at hB; subst hB
    exact ⟨v, by rw [List.getElem?_append_right (by rw [h.1]; exact Nat.le_refl _), h.1, Nat.sub_self]; rfl, k⟩
theorem oz_append (ho : Own w base T_sl_int 1 b l c xs) (hx : OZ w (Bad bad b) xs X) (hv : EZ w (Bad bad b) v A) {a : Nat} (r : Row w.heap a T_sl_int [v]) (hb : base ≤ w.heap.size) (hl : l ≤ 1000000000) (ty : TypeId) :
    ∃ b' c' w', (Builtin.append_ #[T_sl_sl_int, T_sl_sl_int] ty #[.slice b l c, .slice (some ⟨a, 0, none⟩) 1 1]).run Pg w = .ok (.slice b' (l + 1) c') w' ∧ Own w' base T_sl_int 1 b' (l + 1) c' (xs ++ [v]) ∧ OZ w' (Bad bad b') (xs ++ [v]) (X ++ [A]) ∧
      Chg (fun k => bk b = some k) w w' ∧ (bk b' = bk b ∨ bk b' = some w.heap.size) := by
  have h1c : ∀ u ∈ [v], oneC u = true := by
    rcases hv with ⟨_, rfl⟩ | ⟨eb, ec, rfl, _⟩
    · simp [oneC]
    · simp [oneC]
  obtain ⟨b', c', w', hr, ho', hc, hw⟩ := own_append2 (ty := ty) ET_list ho r rfl h1c hb (by omega) (by omega)
  refine ⟨b', c', w', hr, ho', (hx.snoc hv).chg hc (fun i _ h => .inr h) (fun i hi h => ?_), hc, hw⟩
  rcases h with h | h
  · exact .inl h
  · rcases hw with hw | hw
    · exact .inr (by rw [← hw]; exact h)
    · rw [hw] at h; cases h; omega
end
section
variable {w₀ w w' : World} {F L n a b x : Nat} {v v' : Nat → Int} {E E' : Nat → Nat → Prop} {l A : List Nat}
theorem AE.congr {h : Array Obj} (k : AE h F L n v E) (he : ∀ x y, E x y ↔ E' x y) : AE h F L n v E' := by
  obtain ⟨s, pa, ps, i, j, z, e⟩ := k
  exact ⟨s, pa, ps, i, j, z, fun x y => (e x y).trans (he x y)⟩
theorem LC.congr (h : LC w₀ w F L n v E) (he : ∀ x y, E x y ↔ E' x y) : LC w₀ w F L n v E' := ⟨h.c, h.hF, h.hL, h.a.congr he⟩
/-- What is told of the road, whether there is one or not. -/
def RR (E : Nat → Nat → Prop) (a x : Nat) (A : List Nat) : Prop := (A = [] ∧ ¬ ∃ l, Way E a x l) ∨ Way E a x A
theorem op_RoadZ (h : LC w₀ w F L n v E) (ha : a < n) (hb : b < n) :
    Calls Pg fn_cut_Forest_Road #[.pointer (some ⟨F, 0, none⟩), .int .i64 a, .int .i64 b] w fun e w' => ∃ (A : List Nat) (ob : Option Addr) (oc : Nat) (c : Int), e = .returned (.tuple #[.slice ob A.length oc, errV c]) ∧ RR E a b A ∧
      IA w' ob A.length (ints A) ∧ LC w₀ w' F L n v E ∧ CE w w' F L n v E ∧ ∀ bad : Nat → Prop, (∀ k, w.heap.size ≤ k → ¬ bad k) → EZ w' bad (.slice ob A.length oc) A := by
  by_cases hw : ∃ l, Way E a b l
  · obtain ⟨l, hw⟩ := hw
    obtain ⟨_, _, hl0, _⟩ := h.a.way ha hw
    refine (op_Road h ha hb hw).mono ?_
    rintro e w' ⟨ob, oc, rfl, hia, hoB, hoc, hs, hce⟩
    exact ⟨l, ob, oc, 0, rfl, .inr hw, hia, hs, hce, fun bad hbad => .inr ⟨ob, oc, rfl, hia, fun k hk hb => hbad k (hoB k hk) hb, hoc, hl0⟩⟩
  · refine (c_Road_no h.a ha hb hw).mono ?_
    rintro e w' ⟨rfl, hce⟩
    exact ⟨[], none, 0, 21, rfl, .inl ⟨rfl, hw⟩, ⟨rfl, .inl rfl⟩, h.step hce, hce, fun bad _ => .inl ⟨rfl, rfl⟩⟩
theorem RR.uniq {h : Array Obj} {B : List Nat} (k : AE h F L n v E) (ha : a < n) (h1 : RR E a b A) (h2 : RR E a b B) : A = B := by
  rcases h1 with ⟨rfl, h1⟩ | h1 <;> rcases h2 with ⟨rfl, h2⟩ | h2
  · rfl
  · exact absurd ⟨_, h2⟩ h1
  · exact absurd ⟨_, h1⟩ h2
  · exact k.uniq ha h1 h2
end
theorem c_CutBack {w : World} {n x y : Int} {sb : Option Addr} {sl sc : Nat} {f : Nat → Nat → Int} (hg : LaidG w) (hf : CA w sb sl 4 f) (hfw : ∀ i, i < sl → -9223372036854775808 ≤ f i 3 ∧ f i 3 ≤ 9223372036854775807) :
    Calls Pg fn_plaitlaw06_CutBack #[.int .i64 n, .slice sb sl sc, .agg #[.int .i64 x, .int .i64 y]] w fun e w' => e = .returned (.bool true) ∧ Chg Nobody w w' := by
  refine (calls_plaitlaw06_CutBack _ _ _ _ _ _ _ (fun v' w' => v' = .bool true ∧ Chg Nobody w w') ?_).mono (by rintro e w' ⟨v, rfl, rfl, k⟩; exact ⟨rfl, k⟩)
  unfold sh_plaitlaw06_CutBack
  refine alo_r fun hrow => ⟨by decide, ?_⟩
  have hch : Chg Nobody w (w.alloc (.cells #[.int .i64 x, .int .i64 y] T__2int)) := (Chg.refl _ _).alloc _
  have hf1 := hf.nob hch
  obtain ⟨m, hm0, hm1, he⟩ := size_ex n 2 30 (by omega) (by omega) (by omega)
  rw [he]
  have hg1 := hg.chg hch (fun h => h)
  generalize w.heap.size = C at *
  generalize w.alloc (.cells #[.int .i64 x, .int .i64 y] T__2int) = w5 at *
  refine (c_New (n := m) (by omega) (by omega)).mono ?_
  rintro e w8 ⟨F, L, rfl, hc, hF, hL, ha0⟩
  have hs : LC w5 w8 F L m (fun _ => 0) (fun _ _ => False) := ⟨hc, hF, hL, ha0⟩
  refine ⟨_, _, rfl, fun _ w' => w' = w8, err_i (fun e => absurd rfl e) (fun _ => bif_i (fun h => by cases h) (fun _ => rfl)), ?_⟩
  rintro _ w11 rfl
  refine ⟨fun _ w' => ∃ E, LC w5 w' F L m (fun _ => 0) E, ?_, ?_⟩
  · let J : Nat → List Value → World → Prop := fun j vs w' => ∃ (i : Nat) (E : Nat → Nat → Prop), vs = [.int .i64 i] ∧ i ≤ 60 ∧ LC w5 w' F L m (fun _ => 0) E ∧ j = 60 - i
    refine ⟨LI J, LM J, ⟨_, 0, _, rfl, by omega, hs, rfl⟩, ?_⟩
    clear hs hc ha0
    intro _ n15 w16 hJ
    obtain ⟨i, E, hvs, hi, hs, hj⟩ := hJ.at
    simp only [List.cons.injEq, Value.int.injEq, and_true, true_and] at hvs
    subst hvs
    refine ⟨fun _ w' => w' = w16 ∧ i < sl ∧ i < 60, ?_, ?_⟩
    · refine bif_i (fun h1 => bif_i (fun h2 => ?_) (fun _ => ⟨E, hs⟩)) (fun _ => ⟨E, hs⟩)
      simp only [b1s] at h1 h2
      exact ⟨rfl, by omega, by omega⟩
    rintro _ w18 ⟨rfl, hil, hi80⟩
    have hf2 := (hf1.nob hs.c).drew
    replace hs := hs.drew
    refine hf2.rd (k := 1) hil (by omega) ?_
    obtain ⟨hz1, a, haM, hae⟩ := idx_ex (f i 1) (show 0 < m by omega) (by omega)
    refine ⟨hz1, hf2.rd (k := 2) hil (by omega) ?_⟩
    obtain ⟨hz2, b, hbM, hbe⟩ := idx_ex (f i 2) (show 0 < m by omega) (by omega)
    refine ⟨hz2, ?_⟩
    rw [hae, hbe, wrap64_in (x := (i : Int) + 1) (by omega) (by omega)]
    refine (op_Link hs haM hbM).mono ?_
    rintro e w29 ⟨c, E', rfl, hs', hce⟩
    exact ⟨_, rfl, LI.again (k := 60 - (i + 1)) ⟨i + 1, E', rfl, by omega, hs', rfl⟩ (by rw [hj]; omega)⟩
  clear hs hc ha0
  rintro _ w26 ⟨E, hs⟩
  replace hrow := hs.c.row (fun h => h) hrow
  refine ixA_i (by omega) (ldI_r hrow rfl ?_)
  obtain ⟨hz1, a, ha, hae⟩ := idx_ex x (show 0 < m by omega) (by omega)
  refine ⟨hz1, ixA_i (by omega) (ldI_r hrow rfl ?_)⟩
  obtain ⟨hz2, b, hb, hbe⟩ := idx_ex y (show 0 < m by omega) (by omega)
  refine ⟨hz2, ?_⟩
  rw [hae, hbe]
  replace hs := hs.drew
  clear hrow
  have hbase : w5.heap.size ≤ w26.drew.heap.size := hs.c.size
  have hLb0 := hs.a.lt
  generalize hw27 : w26.drew = w27 at *
  have hm := hs.a.small
  -- the roads as they were
  let J : Nat → List Value → World → Prop := fun j vs w' => ∃ (i : Nat) (ob : Option Addr) (ol oc : Nat) (xs : List Value) (X : List (List Nat)), vs = [.slice ob ol oc, .int .i64 i] ∧ i ≤ m ∧ LC w5 w' F L m (fun _ => 0) E ∧ w27.heap.size ≤ w'.heap.size ∧
    Own w' w27.heap.size T_sl_int 1 ob ol oc xs ∧ OZ w' (Bad (fun k => k = L) ob) xs X ∧ X.length = i ∧ (∀ u A, X[u]? = some A → RR E 0 u A) ∧ j = m - i
  refine ⟨LI J, LM J, ⟨_, 0, none, 0, 0, [], [], rfl, by omega, hs, Nat.le_refl _, Own.nil, OZ.nil, rfl, fun u A h => by simp at h, rfl⟩, ?_⟩
  clear hs
  intro _ s33b s33l s33c n34 w35 hJ
  obtain ⟨i, ob, ol, oc, xs, X, hvs, hi, hs, hsz, ho, hx, hXl, hrr, hj⟩ := hJ.at
  simp only [List.cons.injEq, Value.slice.injEq, Value.int.injEq, and_true, true_and] at hvs
  obtain ⟨⟨rfl, rfl, rfl⟩, rfl⟩ := hvs
  have hol := ho.len
  rw [hx.1, hXl, Nat.mul_one] at hol
  subst hol
  refine bif_i (fun hc => ?_) (fun hc => ?_) <;> simp only [b1s] at hc
  · refine (op_RoadZ (a := 0) (b := i) hs (by omega) (by omega)).mono ?_
    rintro e w38 ⟨A, rb, rc, cc, rfl, hA, hia, hs, hce, hez⟩
    refine ⟨_, _, _, _, rfl, alo_r fun hr => ?_⟩
    have hLlt := hs.a.lt.2
    have hgk := hce.c.size
    have hoL : ∀ g, bk s33b = some g → g ≠ L := fun g hg => by have := ho.bk_lt hg; omega
    have ho2 := ho.keep hce.c (fun g hg (e : g = L) => hoL g hg e)
    have hx2 := hx.chg (bad' := Bad (fun k => k = L) s33b) hce.c (fun i _ e => .inl e) (fun _ _ h => h)
    have hv2 := hez (Bad (fun k => k = L) s33b) (fun k hk hb => by
      rcases hb with e | e
      · omega
      · have := (ho.bk_lt e).2; omega)
    have hca : Chg Nobody w38 (w38.alloc (.cells #[.slice rb A.length rc] T_sl_int)) := (Chg.refl _ _).alloc _
    obtain ⟨b', c', w43, hrun, ho', hx', hc3, _⟩ := oz_append (ho2.keep hca (fun _ _ h => h)) (hx2.chg (bad' := Bad (fun k => k = L) s33b) hca (fun _ _ h => h.elim) (fun _ _ h => h)) (hv2.chg (bad' := Bad (fun k => k = L) s33b) hca (fun _ _ h => h.elim) (fun _ _ h => h)) hr
      (by have := hca.size; omega) (by omega) T_sl_sl_int
    refine ⟨_, _, _, w43, hrun, ?_⟩
    rw [wrap64_in (x := (i : Int) + 1) (by omega) (by omega)]
    have hs3 : LC w5 w43 F L m (fun _ => 0) E := by
      have h1 := hs.alloc (.cells #[.slice rb A.length rc] T_sl_int)
      refine ⟨h1.c.trans' hc3 (fun k hk => .inr ?_), h1.hF, h1.hL, h1.a.keep hc3 (fun hk => ?_) (fun hk => hoL L hk rfl)⟩
      · have := (ho.bk_lt hk).1; omega
      · have := (ho.bk_lt hk).1; omega
    refine LI.again (k := m - (i + 1)) ⟨i + 1, b', _, c', _, _, rfl, by omega, hs3, ?_, ho', hx', by simp [hXl], ?_, rfl⟩ (by rw [hj]; omega)
    · have := hca.size; have := hc3.size; omega
    · intro u B hB
      by_cases hu : u < X.length
      · rw [List.getElem?_append_left hu] at hB; exact hrr u B hB
      · have hlt := (List.getElem?_eq_some_iff.1 hB).1
        simp at hlt
        have : u = X.length := by omega
        subst this
        simp at hB; subst hB
        rw [hXl]; exact hA
  · have hi' : i = m := by omega
    subst hi'
    clear hc
    -- what stands while the two are linked and cut
    let PR : World → Prop := fun w' => LC w5 w' F L i (fun _ => 0) E ∧ w27.heap.size ≤ w'.heap.size ∧ Own w' w27.heap.size T_sl_int 1 s33b i s33c xs ∧ OZ w' (Bad (fun k => k = L) s33b) xs X
    have hoL : ∀ g, bk s33b = some g → g ≠ L := fun g hg => by have := ho.bk_lt hg; omega
    have keep : ∀ {w1 w2 : World} {E' : Nat → Nat → Prop}, (w27.heap.size ≤ w1.heap.size ∧ Own w1 w27.heap.size T_sl_int 1 s33b i s33c xs ∧ OZ w1 (Bad (fun k => k = L) s33b) xs X) → CE w1 w2 F L i (fun _ => 0) E' →
        (w27.heap.size ≤ w2.heap.size ∧ Own w2 w27.heap.size T_sl_int 1 s33b i s33c xs ∧ OZ w2 (Bad (fun k => k = L) s33b) xs X) := fun h hce =>
      ⟨Nat.le_trans h.1 hce.c.size, h.2.1.keep hce.c (fun g hg (e : g = L) => hoL g hg e), h.2.2.chg (bad' := Bad (fun k => k = L) s33b) hce.c (fun i _ e => .inl e) (fun _ _ h => h)⟩
    have hst : w27.heap.size ≤ w35.heap.size ∧ Own w35 w27.heap.size T_sl_int 1 s33b i s33c xs ∧ OZ w35 (Bad (fun k => k = L) s33b) xs X := ⟨hsz, ho, hx⟩
    refine ⟨fun _ w' => PR w', ?_, ?_⟩
    · by_cases hw : ∃ l, Way E a b l
      · -- of one tree
        refine (c_Link_no hs.a ha hb hw).mono ?_
        rintro e w46 ⟨rfl, hce⟩
        replace hs := hs.step hce
        replace hst := keep hst hce
        refine ⟨_, rfl, errV_isI _, bif_i (fun h => absurd h (by decide)) (fun _ => ?_)⟩
        by_cases hE : E a b
        · refine (c_Cut hs.a ha hb hE).mono ?_
          rintro e w52 ⟨rfl, hce⟩
          replace hst := keep hst hce
          have hirr := hs.a.irr ha
          have hne : a ≠ b := fun e => by subst e; exact hirr hE
          have huq := fun {l l'} => hs.a.uniq (b := b) (l := l) (l' := l') ha
          have hsym := hs.a.symm
          replace hs := hs.step hce
          refine ⟨_, rfl, errV_isI _, bif_i (fun _ => ?_) (fun h => absurd h (by decide))⟩
          have hno : ¬ ∃ l, Way (fun x y => E x y ∧ ¬ ((x = a ∧ y = b) ∨ (x = b ∧ y = a))) a b l := by
            rintro ⟨l, hl⟩
            have h1 : Way E a b l := hl.congr fun x y h => h.1
            have h2 : Way E a b [a, b] := ⟨rfl, rfl, by simp [hne], fun y hy => by simp at hy; subst hy; exact hE, fun y hy => by simp at hy, trivial⟩
            have := huq h1 h2
            subst this
            exact (hl.lk.1 b rfl).2 (.inl ⟨rfl, rfl⟩)
          refine (c_Same hs.a ha hb).mono ?_
          rintro e w56 ⟨t, rfl, ht, hce⟩
          replace hs := hs.step hce
          replace hst := keep hst hce
          have htf : t = false := by cases t; rfl; exact absurd (ht.1 rfl) hno
          subst htf
          refine ⟨_, _, rfl, err_i (fun e => absurd rfl e) (fun _ => bif_i (fun h => by cases h) (fun _ => ?_))⟩
          refine (c_Link hs.a hb ha (fun ⟨l, hl⟩ => hno ⟨_, hl.reverse hs.a.symm⟩)).mono ?_
          rintro e w59 ⟨rfl, hce⟩
          replace hs := hs.step hce
          replace hst := keep hst hce
          refine ⟨_, rfl, err_i (fun e => absurd rfl e) (fun _ => ⟨hs.congr fun x y => ?_, hst⟩)⟩
          constructor
          · rintro (⟨h, _⟩ | ⟨rfl, rfl⟩ | ⟨rfl, rfl⟩)
            · exact h
            · exact hsym _ _ hE
            · exact hE
          · intro h
            by_cases h1 : (x = a ∧ y = b) ∨ (x = b ∧ y = a)
            · rcases h1 with h1 | h1
              · exact .inr (.inr h1)
              · exact .inr (.inl h1)
            · exact .inl ⟨h, h1⟩
        · refine (c_Cut_no hs.a ha hb hE).mono ?_
          rintro e w52 ⟨rfl, hce⟩
          replace hs := hs.step hce
          replace hst := keep hst hce
          exact ⟨_, rfl, errV_isI _, bif_i (fun h => absurd h (by decide)) (fun _ => ⟨hs, hst⟩)⟩
      · -- of two trees
        have hnE : ∀ x y, (x = a ∧ y = b) ∨ (x = b ∧ y = a) → ¬ E x y := by
          intro x y h hE
          have hEab : E a b := by
            rcases h with ⟨rfl, rfl⟩ | ⟨rfl, rfl⟩
            · exact hE
            · exact hs.a.symm _ _ hE
          have hne : a ≠ b := fun e => by subst e; exact hs.a.irr ha hEab
          exact hw ⟨[a, b], rfl, rfl, by simp [hne], fun y hy => by simp at hy; subst hy; exact hEab, fun y hy => by simp at hy, trivial⟩
        refine (c_Link hs.a ha hb hw).mono ?_
        rintro e w46 ⟨rfl, hce⟩
        replace hs := hs.step hce
        replace hst := keep hst hce
        refine ⟨_, rfl, errV_isI _, bif_i (fun _ => ?_) (fun h => absurd h (by decide))⟩
        refine (c_Cut hs.a hb ha (.inr (.inr ⟨rfl, rfl⟩))).mono ?_
        rintro e w49 ⟨rfl, hce⟩
        replace hs := hs.step hce
        replace hst := keep hst hce
        refine ⟨_, rfl, err_i (fun e => absurd rfl e) (fun _ => ⟨hs.congr fun x y => ?_, hst⟩)⟩
        constructor
        · rintro ⟨h | h, h2⟩
          · exact h
          · exact absurd h.symm h2
        · intro h
          exact ⟨.inl h, fun h2 => hnE x y h2.symm h⟩
    clear hs hsz ho hx hst hj hJ
    rintro _ w61 ⟨hs, hsz, ho, hx⟩
    let J2 : Nat → List Value → World → Prop := fun j vs w' => ∃ u : Nat, vs = [.int .i64 u] ∧ u ≤ i ∧ LC w5 w' F L i (fun _ => 0) E ∧ (w27.heap.size ≤ w'.heap.size ∧ Own w' w27.heap.size T_sl_int 1 s33b i s33c xs ∧ OZ w' (Bad (fun k => k = L) s33b) xs X) ∧ j = i - u
    refine ⟨LI J2, LM J2, ⟨_, 0, rfl, by omega, hs, ⟨hsz, ho, hx⟩, rfl⟩, ?_⟩
    clear hs hsz ho hx
    intro _ n64 w65 hJ2
    obtain ⟨u, hvs, hu, hs, hst, hj2⟩ := hJ2.at
    simp only [List.cons.injEq, Value.int.injEq, and_true, true_and] at hvs
    subst hvs
    refine bif_i (fun hc => ?_) (fun hc => ?_) <;> simp only [b1s] at hc
    · refine (op_RoadZ (a := 0) (b := u) hs (by omega) (by omega)).mono ?_
      rintro e w68 ⟨A, rb, rc, cc, rfl, hA, hia, hs, hce, _⟩
      replace hst := keep hst hce
      refine ⟨_, _, _, _, rfl, ?_⟩
      obtain ⟨B, hB⟩ : ∃ B, X[u]? = some B := ⟨_, List.getElem?_eq_getElem (by omega)⟩
      have hAB : A = B := RR.uniq hs.a (by omega) hA (hrr u B hB)
      subst hAB
      obtain ⟨v, hv, hez⟩ := hst.2.2.2 u A hB
      obtain ⟨g, cs, rfl, hgb, hgr, hgx, _, _⟩ := hst.2.1.get (by omega)
      obtain ⟨eb, ec, rfl, hie⟩ : ∃ eb ec, v = .slice eb A.length ec ∧ IA w68 eb A.length (ints A) := by
        rcases hez with ⟨rfl, rfl⟩ | ⟨eb, ec, h1, h2, _⟩
        · exact ⟨none, 0, rfl, rfl, .inl rfl⟩
        · exact ⟨eb, ec, h1, h2⟩
      refine ixS_i (by omega) (ldS_r hgr (show cs[0 + u * 1]? = some (.slice eb A.length ec) by rw [Nat.zero_add, Nat.mul_one, own_cell hgx (by omega)]; exact hv) ?_)
      have hAl : A.length ≤ 8388608 := by
        rcases hA with ⟨rfl, _⟩ | hA
        · simp
        · have := hs.a.way (by omega : 0 < i) hA; omega
      refine (c_ints06 hia hie (by omega)).mono ?_
      rintro e w73 ⟨rfl, hc3⟩
      refine ⟨_, rfl, bif_i (fun h => by simp at h) (fun _ => ?_)⟩
      rw [wrap64_in (x := (u : Int) + 1) (by omega) (by omega)]
      exact LI.again (k := i - (u + 1)) ⟨u + 1, rfl, by omega, hs.nob hc3, ⟨Nat.le_trans hst.1 hc3.size, hst.2.1.keep hc3 (fun _ _ h => h), hst.2.2.chg (bad' := Bad (fun k => k = L) (some ⟨g, 0, none⟩)) hc3 (fun _ _ h => h.elim) (fun _ _ h => h)⟩, rfl⟩ (by rw [hj2]; omega)
    · refine (n_sure06 hg (hch.trans hs.c)).mono ?_
      rintro e w76 ⟨rfl, hc⟩
      exact ⟨_, rfl, rfl, hc⟩
end Cut
end Go.Proofs.YtledchlbmilneaaDoor
