/-
The law CutRuns: whatever is linked, cut and set: all that is told of the roads, and the errors.
Conditions: the package variable of errors is laid out; the acts can be read.
-/
import Derived.Test.YtledchlbmilneaaDoorLawTold06
namespace Go.Proofs.YtledchlbmilneaaDoor
open Go Go.RowKit
set_option linter.unusedVariables false
set_option linter.unusedSimpArgs false
namespace Cut
open Go.Proofs.YtledchlbmilneaaDoor.Seq
/-- What stands between two steps: the trees, the links, the values. -/
structure RC (w₀ w : World) (F L m B : Nat) (v : Nat → Int) (Ls : List (Nat × Nat)) (lb : Option Addr) (ll lc : Nat) : Prop where
  s : LC w₀ w F L m v (EL Ls)
  o : Own w (B + 1) T__2int 2 lb ll lc (pcs Ls)
  v : Row w.heap B T_int64 (nums m v)
  bd : ∀ p ∈ Ls, p.1 < m ∧ p.2 < m
  nd : ∀ (i j : Nat) (p q : Nat × Nat), Ls[i]? = some p → Ls[j]? = some q → isL p.1 p.2 q → i = j
  FB : F < B
  LB : L < B
  new : w₀.heap.size ≤ B
section
variable {w₀ w w' : World} {F L m B ll lc a b i : Nat} {v v' : Nat → Int} {Ls : List (Nat × Nat)} {lb : Option Addr} {E : Nat → Nat → Prop}
theorem RC.len (h : RC w₀ w F L m B v Ls lb ll lc) : Ls.length = ll := by
  have := h.o.len; rw [pcs_len] at this; omega
theorem RC.nob (h : RC w₀ w F L m B v Ls lb ll lc) (k : Chg Nobody w w') : RC w₀ w' F L m B v Ls lb ll lc :=
  ⟨h.s.nob k, h.o.keep k (fun _ _ h => h), k.row (fun h => h) h.v, h.bd, h.nd, h.FB, h.LB, h.new⟩
theorem RC.drew (h : RC w₀ w F L m B v Ls lb ll lc) : RC w₀ w.drew F L m B v Ls lb ll lc := h.nob (Chg.refl _ _).drew
theorem RC.bkL (h : RC w₀ w F L m B v Ls lb ll lc) : ∀ g, bk lb = some g → g ≠ L ∧ g ≠ B ∧ g ≠ F := fun g hg => by
  have := (h.o.bk_lt hg).1
  have := h.LB
  have := h.FB
  omega
theorem RC.ce (h : RC w₀ w F L m B v Ls lb ll lc) (k : CE w w' F L m v (EL Ls)) : RC w₀ w' F L m B v Ls lb ll lc :=
  ⟨h.s.step k, h.o.keep k.c (fun g hg (e : g = L) => (h.bkL g hg).1 e), k.c.row (by have := h.LB; omega) h.v, h.bd, h.nd, h.FB, h.LB, h.new⟩
theorem RC.la (h : RC w₀ w F L m B v Ls lb ll lc) : LA w lb ll Ls := LA.of_own h.o
theorem isL_EL {x y : Nat} : (∃ p ∈ Ls, isL x y p) ↔ EL Ls x y := by
  constructor
  · rintro ⟨⟨p, q⟩, hp, ⟨rfl, rfl⟩ | ⟨rfl, rfl⟩⟩
    · exact .inl hp
    · exact .inr hp
  · rintro (h | h)
    · exact ⟨_, h, .inl ⟨rfl, rfl⟩⟩
    · exact ⟨_, h, .inr ⟨rfl, rfl⟩⟩
theorem el_app {x y : Nat} : EL (Ls ++ [(a, b)]) x y ↔ EL Ls x y ∨ (x = a ∧ y = b) ∨ (x = b ∧ y = a) := by
  unfold EL
  simp only [List.mem_append, List.mem_singleton, Prod.mk.injEq]
  constructor
  · rintro ((h | h) | (h | ⟨h1, h2⟩))
    · exact .inl (.inl h)
    · exact .inr (.inl h)
    · exact .inl (.inr h)
    · exact .inr (.inr ⟨h2, h1⟩)
  · rintro ((h | h) | h | ⟨h1, h2⟩)
    · exact .inl (.inl h)
    · exact .inr (.inl h)
    · exact .inl (.inr h)
    · exact .inr (.inr ⟨h2, h1⟩)
theorem el_cut {p : Nat × Nat} {x y : Nat} (hnd : ∀ (i j : Nat) (p q : Nat × Nat), Ls[i]? = some p → Ls[j]? = some q → isL p.1 p.2 q → i = j) (hp : Ls[i]? = some p) (hl : isL a b p) :
    EL (Ls.take i ++ Ls.drop (i + 1)) x y ↔ EL Ls x y ∧ ¬ ((x = a ∧ y = b) ∨ (x = b ∧ y = a)) := by
  have hil := (List.getElem?_eq_some_iff.1 hp).1
  have hsplit : Ls = Ls.take i ++ p :: Ls.drop (i + 1) := by
    have e : Ls.drop i = p :: Ls.drop (i + 1) := by rw [List.drop_eq_getElem_cons hil]; congr 1; exact (List.getElem?_eq_some_iff.1 hp).2
    rw [← e, List.take_append_drop]
  have hmem : ∀ q, q ∈ Ls.take i ++ Ls.drop (i + 1) → ¬ isL a b q := by
    intro q hq hlq
    have hpq : isL p.1 p.2 q := by
      rcases hl with ⟨h1, h2⟩ | ⟨h1, h2⟩ <;> rcases hlq with ⟨h3, h4⟩ | ⟨h3, h4⟩
      · exact .inl ⟨by omega, by omega⟩
      · exact .inr ⟨by omega, by omega⟩
      · exact .inr ⟨by omega, by omega⟩
      · exact .inl ⟨by omega, by omega⟩
    rcases List.mem_append.1 hq with hq | hq
    · obtain ⟨j, hj⟩ := List.getElem?_of_mem hq
      have hjl := (List.getElem?_eq_some_iff.1 hj).1
      rw [List.length_take] at hjl
      rw [List.getElem?_take, if_pos (by omega)] at hj
      have := hnd i j p q hp hj hpq
      omega
    · obtain ⟨j, hj⟩ := List.getElem?_of_mem hq
      rw [List.getElem?_drop] at hj
      have := hnd i _ p q hp hj hpq
      omega
  have key : ∀ q, q ∈ Ls.take i ++ Ls.drop (i + 1) ↔ q ∈ Ls ∧ q ≠ p := by
    intro q
    constructor
    · intro hq
      refine ⟨by rw [hsplit]; simp only [List.mem_append, List.mem_cons] at hq ⊢; rcases hq with h | h; exact .inl h; exact .inr (.inr h), fun e => ?_⟩
      subst e
      exact hmem q hq hl
    · rintro ⟨hq, hne⟩
      rw [hsplit] at hq
      simp only [List.mem_append, List.mem_cons] at hq ⊢
      rcases hq with h | h | h
      · exact .inl h
      · exact absurd h hne
      · exact .inr h
  constructor
  · intro h
    refine ⟨h.imp (fun h => ((key _).1 h).1) (fun h => ((key _).1 h).1), fun hxy => ?_⟩
    rcases h with h | h
    · refine hmem _ h ?_
      rcases hxy with ⟨rfl, rfl⟩ | ⟨rfl, rfl⟩
      · exact .inl ⟨rfl, rfl⟩
      · exact .inr ⟨rfl, rfl⟩
    · refine hmem _ h ?_
      rcases hxy with ⟨rfl, rfl⟩ | ⟨rfl, rfl⟩
      · exact .inr ⟨rfl, rfl⟩
      · exact .inl ⟨rfl, rfl⟩
  · rintro ⟨h, hno⟩
    have hne : ∀ q : Nat × Nat, q = (x, y) ∨ q = (y, x) → q ≠ p := by
      rintro q hq rfl
      apply hno
      rcases hq with rfl | rfl
      · rcases hl with ⟨h1, h2⟩ | ⟨h1, h2⟩
        · exact .inl ⟨h1, h2⟩
        · exact .inr ⟨h1, h2⟩
      · rcases hl with ⟨h1, h2⟩ | ⟨h1, h2⟩
        · exact .inr ⟨h2, h1⟩
        · exact .inl ⟨h2, h1⟩
    exact h.imp (fun h => (key _).2 ⟨h, hne _ (.inl rfl)⟩) (fun h => (key _).2 ⟨h, hne _ (.inr rfl)⟩)
theorem nd_cut (hnd : ∀ (i j : Nat) (p q : Nat × Nat), Ls[i]? = some p → Ls[j]? = some q → isL p.1 p.2 q → i = j) (hi : i < Ls.length) :
    ∀ (k j : Nat) (p q : Nat × Nat), (Ls.take i ++ Ls.drop (i + 1))[k]? = some p → (Ls.take i ++ Ls.drop (i + 1))[j]? = some q → isL p.1 p.2 q → k = j := by
  have conv : ∀ (k : Nat) (p : Nat × Nat), (Ls.take i ++ Ls.drop (i + 1))[k]? = some p → Ls[if k < i then k else k + 1]? = some p := by
    intro k p hk
    by_cases h : k < i
    · rw [if_pos h]
      rw [List.getElem?_append_left (by rw [List.length_take]; omega), List.getElem?_take, if_pos h] at hk
      exact hk
    · rw [if_neg h]
      rw [List.getElem?_append_right (by rw [List.length_take]; omega), List.length_take, List.getElem?_drop] at hk
      rw [← hk]; congr 1; omega
  intro k j p q hk hj hl
  have := hnd _ _ p q (conv k p hk) (conv j q hj) hl
  split at this <;> split at this <;> omega
end
theorem c_CutRuns {w : World} {n : Int} {sb : Option Addr} {sl sc : Nat} {f : Nat → Nat → Int} (hg : LaidG w) (hf : CA w sb sl 4 f) (hfw : ∀ i, i < sl → -9223372036854775808 ≤ f i 3 ∧ f i 3 ≤ 9223372036854775807) :
    Calls Pg fn_plaitlaw06_CutRuns #[.int .i64 n, .slice sb sl sc] w fun e w' => e = .returned (.bool true) ∧ Chg Nobody w w' := by
  refine (calls_plaitlaw06_CutRuns _ _ _ _ _ (fun v' w' => v' = .bool true ∧ Chg Nobody w w') ?_).mono (by rintro e w' ⟨v, rfl, rfl, k⟩; exact ⟨rfl, k⟩)
  unfold sh_plaitlaw06_CutRuns
  refine ⟨by decide, ?_⟩
  obtain ⟨m, hm0, hm1, he⟩ := size_ex n 1 16 (by omega) (by omega) (by omega)
  rw [he]
  refine (c_New (n := m) (by omega) (by omega)).mono ?_
  rintro e w4 ⟨F, L, rfl, hc, hF, hL, ha⟩
  have hs : LC w w4 F L m (fun _ => 0) (fun _ _ => False) := ⟨hc, hF, hL, ha⟩
  refine ⟨_, _, rfl, fun _ w' => w' = w4, err_i (fun e => absurd rfl e) (fun _ => bif_i (fun h => by cases h) (fun _ => rfl)), ?_⟩
  rintro _ w7 rfl
  refine ⟨by omega, by omega, by omega, ?_⟩
  rw [show Int.toNat (m : Int) = m by omega]
  refine alo_r fun hrow => ?_
  rw [zerosOf_recs, zeros_nums] at hrow
  have hlt := hs.a.lt
  have hsz := hs.c.size
  replace hs := hs.alloc (.cells (zerosOf #[.int .i64 0] m) T_int64)
  obtain ⟨B, hBw⟩ : ∃ B, B = w7.heap.size := ⟨_, rfl⟩
  rw [← hBw] at hrow ⊢
  have hrp : RC w (w7.alloc (.cells (zerosOf #[.int .i64 0] m) T_int64)) F L m B (fun _ => 0) [] none 0 0 :=
    ⟨hs.congr (fun x y => by simp [EL]), Own.nil, hrow, (fun p hp => by cases hp), (fun i j p q hi => by simp at hi), by omega, by omega, by omega⟩
  generalize w7.alloc (.cells (zerosOf #[.int .i64 0] m) T_int64) = w9 at *
  let J : Nat → List Value → World → Prop := fun j vs w' => ∃ (i : Nat) (v : Nat → Int) (Ls : List (Nat × Nat)) (lb : Option Addr) (ll lc : Nat), vs = [.slice lb ll lc, .int .i64 i] ∧ i ≤ 80 ∧ RC w w' F L m B v Ls lb ll lc ∧ Ls.length ≤ i ∧ j = 80 - i
  refine ⟨LI J, LM J, ⟨_, 0, _, _, _, _, _, rfl, by omega, hrp, by simp, rfl⟩, ?_⟩
  clear hrp hs hc ha hrow hlt hsz hBw
  intro _ s12b s12l s12c n13 w14 hJ
  obtain ⟨i, v, Ls, lb, ll, lc, hvs, hi, hrp, hLl, hj⟩ := hJ.at
  simp only [List.cons.injEq, Value.slice.injEq, Value.int.injEq, and_true, true_and] at hvs
  obtain ⟨⟨rfl, rfl, rfl⟩, rfl⟩ := hvs
  refine ⟨fun _ w' => w' = w14 ∧ i < sl ∧ i < 80, ?_, ?_⟩
  · have fin : Calls Pg fn_plaitlaw06_sure #[] w14 fun e w20 => ∃ b233_19 : Bool, e = .returned (.bool b233_19) ∧ ((Value.bool b233_19) = .bool true ∧ Chg Nobody w w20) := by
      refine (n_sure06 hg hrp.s.c).mono ?_
      rintro e w20 ⟨rfl, hc⟩
      exact ⟨_, rfl, rfl, hc⟩
    refine bif_i (fun h1 => bif_i (fun h2 => ?_) (fun _ => fin)) (fun _ => fin)
    simp only [b1s] at h1 h2
    exact ⟨rfl, by omega, by omega⟩
  rintro _ w22 ⟨rfl, hil, hi80⟩
  replace hrp := hrp.drew
  have hfa : ∀ {w'}, Chg Nobody w w' → CA w' sb sl 4 f := fun h => hf.nob h
  refine (hfa hrp.s.c).rd (k := 1) hil (by omega) ?_
  refine (hfa hrp.s.c).rd (k := 2) hil (by omega) ?_
  have hV := hfw i hil
  generalize hav : f i 1 = av at *
  generalize hbv : f i 2 = bv at *
  have again : ∀ (w' : World) (v' : Nat → Int) (Ls' : List (Nat × Nat)) (b' : Option Addr) (l' c' : Nat), RC w w' F L m B v' Ls' b' l' c' → Ls'.length ≤ i + 1 →
      LI J [.slice b' l' c', .int .i64 (IntKind.wrap .i64 ((i : Int) + 1))] w' ∧ LM J [.slice b' l' c', .int .i64 (IntKind.wrap .i64 ((i : Int) + 1))] w' < LM J [.slice s12b s12l s12c, .int .i64 (i : Int)] w22 := by
    intro w' v' Ls' b' l' c' h h2
    rw [wrap64_in (x := (i : Int) + 1) (by omega) (by omega)]
    exact LI.again (k := 80 - (i + 1)) ⟨i + 1, v', Ls', b', l', c', rfl, by omega, h, h2, rfl⟩ (by rw [hj]; omega)
  generalize w22.drew = w23 at *
  have num : ∀ {w' : World} {c : Int}, RC w w' F L m B v Ls s12b s12l s12c → Calls Pg fn_plaitlaw06_num #[errV c] w' fun e w'' => e = .returned (.int .i64 c) ∧ RC w w'' F L m B v Ls s12b s12l s12c := fun h =>
    (c_num06 (h.s.g hg)).mono fun e w'' ⟨he, k⟩ => ⟨he, h.nob k⟩
  refine ⟨fun _ w' => ((0 ≤ av ∧ av < m) ∧ (0 ≤ bv ∧ bv < m)) ∧ w' = w23, ?_, ?_⟩
  · refine ⟨fun vs w' => ∃ t : Bool, vs = [.bool t] ∧ (t = true ↔ ¬ ((0 ≤ av ∧ av < m) ∧ (0 ≤ bv ∧ bv < m))) ∧ w' = w23, ?_, ?_⟩
    · refine bif_i (fun h => ?_) (fun h => ?_) <;> simp only [b1s] at h
      · exact ⟨true, rfl, by simp; omega, rfl⟩
      refine bif_i (fun h2 => ?_) (fun h2 => ?_) <;> simp only [b1s] at h2
      · exact ⟨true, rfl, by simp; omega, rfl⟩
      refine bif_i (fun h3 => ?_) (fun h3 => ?_) <;> simp only [b1s] at h3
      · exact ⟨true, rfl, by simp; omega, rfl⟩
      exact ⟨_, rfl, by simp; omega, rfl⟩
    · rintro _ b29 w30 ⟨t, ht, hin, rfl⟩
      simp only [List.cons.injEq, Value.bool.injEq, and_true] at ht
      subst ht
      refine bif_i (fun h => ?_) (fun h => ?_)
      · have hbad := hin.1 h
        refine (c_Near_bad hrp.s.a hbad).mono ?_
        rintro e w33 ⟨rfl, hce⟩
        replace hrp := hrp.ce hce
        refine ⟨_, _, rfl, (c_Link_bad hrp.s.a hbad).mono ?_⟩
        rintro e w36 ⟨rfl, hce⟩
        replace hrp := hrp.ce hce
        refine ⟨_, rfl, (num hrp).mono ?_⟩
        rintro e w39 ⟨rfl, hrp⟩
        refine ⟨_, rfl, bif_i (fun h => absurd h (by decide)) (fun _ => (c_Cut_bad hrp.s.a hbad).mono ?_)⟩
        rintro e w42 ⟨rfl, hce⟩
        replace hrp := hrp.ce hce
        refine ⟨_, rfl, (num hrp).mono ?_⟩
        rintro e w45 ⟨rfl, hrp⟩
        refine ⟨_, rfl, bif_i (fun h => absurd h (by decide)) (fun _ => (num hrp).mono ?_)⟩
        rintro e w48 ⟨rfl, hrp⟩
        exact ⟨_, rfl, bif_i (fun h => absurd h (by decide)) (fun _ => again _ _ _ _ _ _ hrp (by omega))⟩
      · by_cases hi : ((0 ≤ av ∧ av < m) ∧ (0 ≤ bv ∧ bv < m))
        · exact ⟨hi, rfl⟩
        · rw [hin.2 hi] at h; cases h
  rintro _ w50 ⟨⟨⟨ha0, ham⟩, hb0, hbm⟩, rfl⟩
  obtain ⟨x, rfl⟩ : ∃ x : Nat, av = x := ⟨av.toNat, by omega⟩
  obtain ⟨y, rfl⟩ : ∃ y : Nat, bv = y := ⟨bv.toNat, by omega⟩
  have hx : x < m := by omega
  have hy : y < m := by omega
  have hlen := hrp.len
  refine (c_rFind06 (c := s12c) (x := x) (y := y) hrp.la (by omega)).mono ?_
  rintro e w52 ⟨rfl, hfind⟩
  obtain ⟨at_, rfl, hat⟩ : ∃ at_ : Int, e = .returned (.int .i64 at_) ∧ ((∃ k p, at_ = (k : Nat) ∧ Ls[k]? = some p ∧ isL x y p) ∨ (at_ = -1 ∧ ¬ EL Ls x y)) := by
    rcases hfind with ⟨k, p, rfl, h1, h2⟩ | ⟨rfl, h⟩
    · exact ⟨_, rfl, .inl ⟨k, p, rfl, h1, h2⟩⟩
    · exact ⟨_, rfl, .inr ⟨rfl, fun hE => by obtain ⟨p, hp, hl⟩ := isL_EL.2 hE; exact h p hp hl⟩⟩
  have hatE : 0 ≤ at_ ↔ EL Ls x y := by
    rcases hat with ⟨k, p, rfl, h1, h2⟩ | ⟨rfl, h⟩
    · exact ⟨fun _ => isL_EL.1 ⟨p, List.mem_of_getElem? h1, h2⟩, fun _ => by omega⟩
    · exact ⟨fun h => by omega, fun h' => absurd h' h⟩
  refine ⟨_, rfl, (c_Near hrp.s.a hx hy).mono ?_⟩
  rintro e w56 ⟨t, rfl, ht, hce⟩
  replace hrp := hrp.ce hce
  refine ⟨_, _, rfl, fun _ w' => w' = w56, err_i (fun e => absurd rfl e) (fun _ => bif_i (fun h => ?_) (fun _ => rfl)), ?_⟩
  · exfalso
    have : t = decide (at_ ≥ 0) := by
      have := ht.trans hatE.symm
      by_cases h0 : 0 ≤ at_
      · rw [this.2 h0]; symm; simpa using h0
      · have hf : t = false := by cases t; rfl; exact absurd (this.1 rfl) h0
        rw [hf]; symm; simpa using h0
    rw [this] at h; simp at h
  rintro _ w59 rfl
  refine ⟨fun vs w' => ∃ v' Ls' b' l' c', vs = [.slice b' l' c'] ∧ RC w w' F L m B v' Ls' b' l' c' ∧ Ls'.length ≤ i + 1, ?_, ?_⟩
  · refine (hfa hrp.s.c).rd0 hil (by omega) ⟨by decide, ?_⟩
    refine ⟨fun vs w' => ∃ t, vs = [.bool t] ∧ w' = w59, bif_i (fun _ => ⟨_, rfl, rfl⟩) (fun _ => ⟨_, rfl, rfl⟩), ?_⟩
    rintro _ b64 w65 ⟨t, ht, rfl⟩
    refine bif_i (fun _ => ?_) (fun _ => ?_)
    · -- cut
      rcases hat with ⟨k, p, rfl, hk, hkl⟩ | ⟨rfl, hnE⟩
      · have hE := hatE.1 (by omega)
        have hkL := (List.getElem?_eq_some_iff.1 hk).1
        refine (c_Cut hrp.s.a hx hy hE).mono ?_
        rintro e w67 ⟨rfl, hce⟩
        have hs2 := (hrp.s.step hce).congr (fun p q => (el_cut hrp.nd hk hkl).symm)
        have ho2 := hrp.o.keep hce.c (fun g hg (e : g = L) => (hrp.bkL g hg).1 e)
        have hv2 := hce.c.row (by have := hrp.LB; omega) hrp.v
        refine ⟨_, rfl, bif_i (fun h => ?_) (fun _ => ?_)⟩
        · simp only [b1s] at h; omega
        refine (c_rWithout06 (c := s12c) (i := k) (LA.of_own ho2) ho2.cap.1 (by omega) (by omega)).mono ?_
        rintro e w73 ⟨rb, rc, rfl, hor, hc⟩
        have hBw : B + 1 ≤ w67.heap.size := hv2.lt
        refine ⟨_, _, _, rfl, err_i (fun e => absurd rfl e) (fun _ => ⟨v, _, rb, _, rc, rfl, ⟨hs2.nob hc, hor.mono hBw, hc.row (fun h => h) hv2, ?_, nd_cut hrp.nd hkL, hrp.FB, hrp.LB, hrp.new⟩, ?_⟩)⟩
        · intro p hp
          refine hrp.bd p ?_
          rcases List.mem_append.1 hp with h | h
          · exact List.mem_of_mem_take h
          · exact List.mem_of_mem_drop h
        · simp; omega
      · refine (c_Cut_no hrp.s.a hx hy hnE).mono ?_
        rintro e w67 ⟨rfl, hce⟩
        replace hrp := hrp.ce hce
        refine ⟨_, rfl, bif_i (fun _ => (num hrp).mono ?_) (fun h => absurd h (by decide))⟩
        rintro e w70 ⟨rfl, hrp⟩
        exact ⟨_, rfl, bif_i (fun h => absurd h (by decide)) (fun _ => ⟨_, _, _, _, _, rfl, hrp, by omega⟩)⟩
    refine ⟨fun vs w' => ∃ t, vs = [.bool t] ∧ w' = w65, bif_i (fun _ => ⟨_, rfl, rfl⟩) (fun _ => ⟨_, rfl, rfl⟩), ?_⟩
    rintro _ b76 w77 ⟨t, ht, rfl⟩
    refine bif_i (fun _ => ?_) (fun _ => ?_)
    · -- a value set
      refine (hfa hrp.s.c).rd (k := 3) hil (by omega) ?_
      refine ixS_i hx (sto_r hrp.v (by simp; omega) rfl fun hv' => ?_)
      rw [Nat.zero_add, Nat.mul_one, nums_set] at hv'
      rw [Nat.zero_add, Nat.mul_one]
      have hcB : Chg (· = B) w77 (w77.setCell ⟨B, x, none⟩ (.int .i64 (f i 3))) := (Chg.refl _ _).setCell _ _ (.inl rfl)
      have hs2 := hrp.s.put hcB hrp.new (by have := hrp.FB; omega) (by have := hrp.LB; omega)
      have ho2 := hrp.o.keep hcB (fun g hg (e : g = B) => (hrp.bkL g hg).2.1 e)
      refine (hfa hs2.c).rd (k := 3) hil (by omega) ?_
      generalize w77.setCell ⟨B, x, none⟩ (.int .i64 (f i 3)) = w81 at *
      refine (c_Set hs2.a hx hV).mono ?_
      rintro e w85 ⟨rfl, hce⟩
      refine ⟨_, rfl, err_i (fun e => absurd rfl e) (fun _ => ⟨_, Ls, s12b, s12l, s12c, rfl, ⟨hs2.step hce, ho2.keep hce.c (fun g hg (e : g = L) => (hrp.bkL g hg).1 e), hce.c.row (by have := hrp.LB; omega) hv', hrp.bd, hrp.nd, hrp.FB, hrp.LB, hrp.new⟩, by omega⟩)⟩
    · -- two linked
      have hla := fun {w' : World} (h : LC w w' F L m v (EL Ls)) => h
      by_cases hw : ∃ l, Way (EL Ls) x y l
      · refine (c_Link_no hrp.s.a hx hy hw).mono ?_
        rintro e w88 ⟨rfl, hce⟩
        replace hrp := hrp.ce hce
        refine ⟨_, rfl, (c_rRoad06 (sc := s12c) hrp.la hrp.bd hx hy (by omega) (by omega)).mono ?_⟩
        rintro e w91 ⟨A, ob, oc, rfl, hA, hia, hoB, hc⟩
        have hAw : Way (EL Ls) x y A := hA.resolve_left (fun h => h.2 hw)
        obtain ⟨_, _, hl0, _⟩ := hrp.s.a.way hx hAw
        replace hrp := hrp.nob hc
        refine ⟨_, _, _, rfl, bif_i (fun _ => (num hrp).mono ?_) (fun h => ?_)⟩
        · rintro e w94 ⟨rfl, hrp⟩
          exact ⟨_, rfl, bif_i (fun h => absurd h (by decide)) (fun _ => ⟨_, _, _, _, _, rfl, hrp, by omega⟩)⟩
        · simp only [b1s] at h; omega
      · refine (c_Link hrp.s.a hx hy hw).mono ?_
        rintro e w88 ⟨rfl, hce⟩
        have hnE : ¬ EL Ls x y := fun hE => by
          have hne : x ≠ y := fun e => by subst e; exact hrp.s.a.irr hx hE
          exact hw ⟨[x, y], rfl, rfl, by simp [hne], fun z hz => by simp at hz; subst hz; exact hE, fun z hz => by simp at hz, trivial⟩
        have hs2 := (hrp.s.step hce).congr (fun p q => (el_app (Ls := Ls)).symm)
        have ho2 := hrp.o.keep hce.c (fun g hg (e : g = L) => (hrp.bkL g hg).1 e)
        have hv2 := hce.c.row (by have := hrp.LB; omega) hrp.v
        refine ⟨_, rfl, (c_rRoad06 (sc := s12c) (LA.of_own ho2) hrp.bd hx hy (by omega) (by omega)).mono ?_⟩
        rintro e w91 ⟨A, ob, oc, rfl, hA, hia, hoB, hc⟩
        obtain ⟨rfl, _⟩ : A = [] ∧ ¬ ∃ l, Way (EL Ls) x y l := hA.resolve_right (fun h => hw ⟨_, h⟩)
        refine ⟨_, _, _, rfl, bif_i (fun h => by simp at h) (fun _ => ?_)⟩
        refine alo_r fun hr => ?_
        have hca := hc.alloc (.cells #[.int .i64 (x : Int), .int .i64 (y : Int)] T__2int)
        have hBw : B + 1 ≤ w88.heap.size := hv2.lt
        have hla1 : LA (w91.alloc (.cells #[.int .i64 (x : Int), .int .i64 (y : Int)] T__2int)) (some ⟨w91.heap.size, 0, none⟩) 1 [(x, y)] := ⟨rfl, .inr ⟨_, 0, _, _, rfl, hr, fun j u h => by rw [Nat.zero_add]; exact h⟩⟩
        obtain ⟨b', c', w99, hrun, ho', hc3, _⟩ := own_appendP (sc := 1) (ty := T_sl__2int) (ho2.keep hca (fun _ _ h => h)) hla1 (Nat.le_trans hBw hca.size) (by omega)
        rw [← pcs_app] at ho'
        have hbk := hrp.bkL
        refine ⟨b', _, c', w99, hrun, err_i (fun e => absurd rfl e) (fun _ => ⟨v, Ls ++ [(x, y)], b', _, c', rfl, ⟨?_, ho', hc3.row (fun hk => (hbk _ hk).2.1 rfl) (hca.row (fun h => h) hv2), ?_, ?_, hrp.FB, hrp.LB, hrp.new⟩, by simp; omega⟩)⟩
        · have h1 := hs2.nob hca
          refine ⟨h1.c.trans' hc3 (fun k hk => .inr ?_), h1.hF, h1.hL, h1.a.keep hc3 (fun hk => (hbk _ hk).2.2 rfl) (fun hk => (hbk _ hk).1 rfl)⟩
          have := (hrp.o.bk_lt hk).1
          have := hrp.new
          omega
        · intro p hp
          rcases List.mem_append.1 hp with h | h
          · exact hrp.bd p h
          · simp at h; subst h; exact ⟨hx, hy⟩
        · have one : ∀ (j : Nat) (q : Nat × Nat), Ls[j]? = some q → ¬ isL x y q := fun j q hq hl => hnE (isL_EL.1 ⟨q, List.mem_of_getElem? hq, hl⟩)
          intro k j p q hk hj hl
          by_cases h1 : k < Ls.length <;> by_cases h2 : j < Ls.length
          · rw [List.getElem?_append_left h1] at hk
            rw [List.getElem?_append_left h2] at hj
            exact hrp.nd k j p q hk hj hl
          · rw [List.getElem?_append_left h1] at hk
            rw [List.getElem?_append_right (by omega)] at hj
            have hj0 : j - Ls.length = 0 := by have := (List.getElem?_eq_some_iff.1 hj).1; simp at this; omega
            rw [hj0] at hj
            simp at hj; subst hj
            exfalso
            refine one k p hk ?_
            rcases hl with ⟨h3, h4⟩ | ⟨h3, h4⟩
            · exact .inl ⟨h3.symm, h4.symm⟩
            · exact .inr ⟨h4.symm, h3.symm⟩
          · rw [List.getElem?_append_right (by omega)] at hk
            rw [List.getElem?_append_left h2] at hj
            have hk0 : k - Ls.length = 0 := by have := (List.getElem?_eq_some_iff.1 hk).1; simp at this; omega
            rw [hk0] at hk
            simp at hk; subst hk
            exact absurd hl (one j q hj)
          · have h3 := (List.getElem?_eq_some_iff.1 hk).1
            have h4 := (List.getElem?_eq_some_iff.1 hj).1
            simp at h3 h4; omega
  clear hrp
  rintro _ s100b s100l s100c w101 ⟨v', Ls', b', l', c', hvs, hrp, hLl'⟩
  simp only [List.cons.injEq, Value.slice.injEq, and_true] at hvs
  obtain ⟨rfl, rfl, rfl⟩ := hvs
  have hlen' := hrp.len
  refine (hfa hrp.s.c).rd (k := 3) hil (by omega) ?_
  obtain ⟨hz, c, hcM, hce⟩ := idx_ex (f i 3) (show 0 < m by omega) (by omega)
  refine ⟨hz, ?_⟩
  rw [hce]
  refine (c_rRoad06 (sc := s100c) hrp.la hrp.bd hcM hy (by omega) (by omega)).mono ?_
  rintro e w105 ⟨A, ob, oc, rfl, hA, hia, hoB, hc⟩
  have hLlt := hrp.s.a.lt.2
  replace hrp := hrp.nob hc
  refine ⟨_, _, _, rfl, (c_told06 (B := B) (vc := m) hg hrp.s hcM hy hA hia (fun k hk => by have := hoB k hk; omega) hrp.v (by have := hrp.LB; omega)).mono ?_⟩
  rintro e w108 ⟨rfl, hs', hc2⟩
  refine ⟨_, rfl, bif_i (fun h => by cases h) (fun _ => again _ _ _ _ _ _ ⟨hs', hrp.o.keep hc2 (fun g hg (e : g = L) => (hrp.bkL g hg).1 e), hc2.row (by have := hrp.LB; omega) hrp.v, hrp.bd, hrp.nd, hrp.FB, hrp.LB, hrp.new⟩ hLl')⟩
end Cut
end Go.Proofs.YtledchlbmilneaaDoor
