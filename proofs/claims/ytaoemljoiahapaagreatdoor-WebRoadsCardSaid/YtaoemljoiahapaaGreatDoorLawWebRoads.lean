/-
The law WebRoads: the weakest tie between two faces, untied, parts them; with it tied again all is linked as it was.
Conditions: the package variable of errors is laid out; the acts can be read.
-/
import Derived.Test.YtaoemljoiahapaaGreatDoorGToldW
namespace Go.Proofs.YtaoemljoiahapaaGreatDoor
open Go Go.RowKit
set_option linter.unusedVariables false
set_option linter.unusedSimpArgs false
namespace Web
open Go.Proofs.YtaoemljoiahapaaGreatDoor.Seq Go.Proofs.YtaoemljoiahapaaGreatDoor.Cut
section
variable {n a b x y u z : Nat} {X : List (List Nat)} {D : Nat → Option (Nat × Nat)} {l A : List Nat}
/-- A way of items alone stays in a face. -/
theorem way_face (hn : X.flatten.Nodup) (hA : A ∈ X) (ha : a ∈ A) (hl : Cut.Way (EW X D n) a b l) (hi : ∀ z ∈ l, z < n) : b ∈ A := by
  obtain ⟨g, hg⟩ := List.getElem?_of_mem hA
  have h2 : ∀ (l : List Nat) (a : Nat), l.head? = some a → a ∈ A → (∀ z ∈ l, z < n) → Lk (EW X D n) l → ∀ z ∈ l, z ∈ A := by
    intro l
    induction l with
    | nil => intro a h; cases h
    | cons x l ih =>
      intro a h ha hi hk z hz
      simp at h; subst h
      rcases List.mem_cons.1 hz with rfl | hz
      · exact ha
      · cases l with
        | nil => cases hz
        | cons y l =>
          have hxy := hk.1 y rfl
          have hyA : y ∈ A := by
            rcases hxy with ⟨B, hB, h⟩ | h
            · have hm : x ∈ B ∧ y ∈ B := by
                rcases h with h | h
                · exact h.mem
                · exact ⟨h.mem.2, h.mem.1⟩
              obtain ⟨g', hg'⟩ := List.getElem?_of_mem hB
              have : g' = g := at_uniq hn ⟨B, hg', hm.1⟩ ⟨A, hg, ha⟩
              subst this
              rw [hg] at hg'; cases hg'
              exact hm.2
            · have h1 := tl_ge h
              have h2 := hi x (by simp)
              have h3 := hi y (by simp)
              omega
          exact ih y rfl hyA (fun z hz => hi z (List.mem_cons_of_mem _ hz)) hk.2 z hz
  exact h2 l a hl.hd ha hi hl.lk b (List.mem_of_getLast? hl.la)
/-- A tie's node on a way between items is tied. -/
theorem lk_prev {E : Nat → Nat → Prop} : ∀ {l : List Nat} {a z : Nat}, l.head? = some a → Lk E l → z ∈ l → z ≠ a → ∃ u ∈ l, E u z
  | [], _, _, h, _, _, _ => by cases h
  | [x], a, z, h, _, hz, hne => by simp at h hz; subst h hz; exact absurd rfl hne
  | x :: y :: l, a, z, h, hk, hz, hne => by
    simp at h; subst h
    rcases List.mem_cons.1 hz with h | h
    · exact absurd h hne
    · by_cases e : z = y
      · subst e; exact ⟨x, by simp, hk.1 z rfl⟩
      · obtain ⟨u, hu, h1⟩ := lk_prev (l := y :: l) rfl hk.2 h e
        exact ⟨u, List.mem_cons_of_mem _ hu, h1⟩
theorem way_tied {e : Nat} (hX : ∀ z ∈ X.flatten, z < n) (hD : ∀ e a b, D e = some (a, b) → a < n ∧ b < n) (ha : a < n) (hl : Cut.Way (EW X D n) a b l) (he : n + e ∈ l) : ∃ p q, D e = some (p, q) := by
  obtain ⟨u, hu, h⟩ := lk_prev hl.hd hl.lk he (by omega)
  rcases h with h | ⟨i, p, q, h1, h2⟩
  · have := hX _ (eq_mem h).2
    omega
  · have := hD i p q h1
    have : i = e := by omega
    subst this
    exact ⟨p, q, h1⟩
/-- A tie less: a way without it is a way with it. -/
theorem ew_less {e : Nat} (h : EW X (upd D e none) n x y) : EW X D n x y := by
  rcases h with h | ⟨i, p, q, h1, h2⟩
  · exact .inl h
  · refine .inr ⟨i, p, q, ?_, h2⟩
    by_cases hi : i = e
    · rw [hi, upd_same] at h1; cases h1
    · rw [upd_ne _ _ hi] at h1; exact h1
end
theorem c_WebRoads {w : World} {n x y : Int} {sb : Option Addr} {sl sc : Nat} {f : Nat → Nat → Int} (hg : LaidG w) (hf : CA w sb sl 5 f) (hfw : ∀ i, i < sl → -9223372036854775808 ≤ f i 4 ∧ f i 4 ≤ 9223372036854775807) :
    Calls Pg fn_plaitlaw14_WebRoads #[.int .i64 n, .slice sb sl sc, .agg #[.int .i64 x, .int .i64 y]] w fun e w' => e = .returned (.bool true) ∧ Chg Nobody w w' := by
  refine (calls_plaitlaw14_WebRoads _ _ _ _ _ _ _ (fun v' w' => v' = .bool true ∧ Chg Nobody w w') ?_).mono (by rintro e w' ⟨v, rfl, rfl, k⟩; exact ⟨rfl, k⟩)
  unfold sh_plaitlaw14_WebRoads
  obtain ⟨m, hm0, hm1, he⟩ := size_ex n 2 14 (by omega) (by omega) (by omega)
  rw [he]
  refine alo1 fun A w8 hA hc8 rA => ⟨by decide, ?_⟩
  have rA : Row w8.heap A T__2int [.int .i64 x, .int .i64 y] := rA
  have hg8 := hg.chg hc8 (fun h => h)
  refine (c_grown14 (sc := sc) hg8 (by omega) (by omega) (hf.nob hc8) hfw).mono ?_
  rintro e w14 ⟨W, R, F, L, CF, CL, EB, fb, fl, fc, tb, tl, tc, rfl, hst⟩
  replace rA := hst.c.row (fun h => h) rA
  refine ⟨_, _, _, _, _, _, _, _, _, rfl, ?_⟩
  refine alo1 fun B w17 hB hc17 rB => st4 rB rfl rfl rfl rfl rfl fun w21 hc21 rB => ?_
  have hcB : Chg Nobody w14 w21.drew := (hc17.trans' hc21 (fun i e => .inr (by omega))).drew
  have hBne : ∀ k, (k = L ∨ k = CL ∨ k = EB) → k ≠ B := by
    obtain ⟨X, D, key, T, hL, hR⟩ := hst
    have h1 := hL.a.lts
    rintro k hk rfl
    omega
  replace hst := hst.nob hcB
  replace rA := hcB.row (fun h => h) rA
  have rB : Row w21.drew.heap B T_plaitref14_Web [.int .i64 (m : Int), .int .i64 8, .slice fb fl fc, .slice tb tl tc] := rB
  clear hcB hc21 hc17
  refine bif_i (fun h => by cases h) (fun _ => ixA_i (by omega) (ldI_r rA rfl ?_))
  obtain ⟨hz1, a, haM, hae⟩ := idx_ex x (show 0 < m by omega) (by omega)
  refine ⟨hz1, ixA_i (by omega) (ldI_r rA rfl ?_)⟩
  obtain ⟨hz2, b, hbM, hbe⟩ := idx_ex y (show 0 < m by omega) (by omega)
  refine ⟨hz2, ?_⟩
  rw [hae, hbe]
  obtain ⟨X, D, key, T, hL, hR⟩ := hst
  generalize w21.drew = w22 at *
  have hcw : ∀ {w' : World} {D' key'}, LW w8 w' W R F L CF CL EB m 8 X D' key' → Chg Nobody w w' := fun h => hc8.trans h.c
  -- all the way
  have stepW : ∀ {w1 w2 : World} {D1 D2 : Nat → Option (Nat × Nat)} {k1 k2 : Nat → Int}, WS w1 w2 W R F L CF CL EB m 8 X D2 k2 → (LW w8 w1 W R F L CF CL EB m 8 X D1 k1 ∧ RW w1 (bd L CL EB Nobody) m 8 D key X T fb fl tb tl tc ∧ Row w1.heap B T_plaitref14_Web [.int .i64 (m : Int), .int .i64 8, .slice fb fl fc, .slice tb tl tc]) →
      (LW w8 w2 W R F L CF CL EB m 8 X D2 k2 ∧ RW w2 (bd L CL EB Nobody) m 8 D key X T fb fl tb tl tc ∧ Row w2.heap B T_plaitref14_Web [.int .i64 (m : Int), .int .i64 8, .slice fb fl fc, .slice tb tl tc]) :=
    fun k h => ⟨h.1.step k, h.2.1.keep k.c (fun i e => .inl e), k.c.row (fun h => hBne B h rfl) h.2.2⟩
  have stepN : ∀ {w1 w2 : World} {D1 : Nat → Option (Nat × Nat)} {k1 : Nat → Int}, Chg Nobody w1 w2 → (LW w8 w1 W R F L CF CL EB m 8 X D1 k1 ∧ RW w1 (bd L CL EB Nobody) m 8 D key X T fb fl tb tl tc ∧ Row w1.heap B T_plaitref14_Web [.int .i64 (m : Int), .int .i64 8, .slice fb fl fc, .slice tb tl tc]) →
      (LW w8 w2 W R F L CF CL EB m 8 X D1 k1 ∧ RW w2 (bd L CL EB Nobody) m 8 D key X T fb fl tb tl tc ∧ Row w2.heap B T_plaitref14_Web [.int .i64 (m : Int), .int .i64 8, .slice fb fl fc, .slice tb tl tc]) :=
    fun k h => ⟨h.1.nob k, h.2.1.nob k, k.row (fun h => h) h.2.2⟩
  have hall : LW w8 w22 W R F L CF CL EB m 8 X D key ∧ RW w22 (bd L CL EB Nobody) m 8 D key X T fb fl tb tl tc ∧ Row w22.heap B T_plaitref14_Web [.int .i64 (m : Int), .int .i64 8, .slice fb fl fc, .slice tb tl tc] := ⟨hL, hR, rB⟩
  have hFX := hR.x
  have hRr := hR.r
  have hRd := hR.dl
  have hRdd := hR.d
  have htl := hR.tl_le
  have hdW := hL.a.d
  clear hL hR rB rA
  obtain ⟨i, Ax, kx, hx1, hx2⟩ := hFX.at haM
  obtain ⟨j, Ay, ky, hy1, hy2⟩ := hFX.at hbM
  have hsame : ∀ {w1 : World}, (LW w8 w1 W R F L CF CL EB m 8 X D key) → Calls Pg fn_web_Web_Same #[(Value.pointer (some ⟨W, 0, none⟩)), (Value.int .i64 (a : Int)), (Value.int .i64 (b : Int))] w1 fun r w' => r = .returned (.tuple #[.bool (decide (i = j)), errV 0]) ∧ WS w1 w' W R F L CF CL EB m 8 X D key := by
    intro w1 hL
    by_cases hij : i = j
    · subst hij
      rw [hx1] at hy1; cases hy1
      have hp := perm_one hx1
      refine (w_Same_yes (hL.a.perm hp) (List.mem_of_getElem? hx2) (List.mem_of_getElem? hy2)).mono fun e w' ⟨h1, h2⟩ => ⟨by rw [h1]; simp, h2.perm hp.symm⟩
    · have hp2 := wo_perm2 hx1 hy1 hij
      refine (w_Same_no (hL.a.perm hp2) (List.mem_of_getElem? hx2) (List.mem_of_getElem? hy2)).mono fun e w' ⟨h1, h2⟩ => ⟨by rw [h1]; simp [hij], h2.perm hp2.symm⟩
  by_cases hrt : RT (EW X D m) a b
  case neg =>
    refine (w_Weakest_no hall.1.a haM hbM hrt).mono ?_
    rintro e w25 ⟨rfl, hws⟩
    replace hall := stepW hws hall
    refine ⟨_, _, rfl, fun _ _ => False, ⟨fun vs w' => vs = [.bool true] ∧ w' = w25, err_i (fun _ => ⟨rfl, rfl⟩) (fun e => by omega), ?_⟩, fun _ _ h => h.elim⟩
    rintro _ b29 w30 ⟨hvs, rfl⟩
    simp only [List.cons.injEq, Value.bool.injEq, and_true] at hvs
    subst hvs
    refine bif_i (fun _ => ?_) (fun h => by cases h)
    refine (w_Linked hall.1.a haM hbM).mono ?_
    rintro e w33 ⟨ok, rfl, hok, hws⟩
    replace hall := stepW hws hall
    have hokf : ok = false := by
      cases ok with
      | false => rfl
      | true => exact absurd (hok.1 rfl) hrt
    subst hokf
    refine ⟨_, _, rfl, (hsame hall.1).mono ?_⟩
    rintro e w37 ⟨rfl, hws⟩
    replace hall := stepW hws hall
    exact ⟨_, _, rfl, errV_isI _, bif_i (fun _ => ⟨errV_isI _, bif_i (fun _ => ⟨errV_isI _, bif_i (fun _ => err_i (fun _ => sure_fin hg (hcw hall.1)) (fun e => by omega)) (fun h => absurd h (by decide))⟩) (fun h => absurd h (by decide))⟩) (fun h => absurd h (by decide))⟩
  obtain ⟨l, hl⟩ := hrt.way
  refine (w_Weakest hall.1.a haM hbM hl).mono ?_
  rintro e w25 ⟨v, z, hv, hk, ⟨pre, post, e1, h1, h2⟩, rfl, hws⟩
  replace hall := stepW hws hall
  have hzl : z ∈ l := by rw [e1]; simp
  refine ⟨_, _, rfl, ?_⟩
  by_cases hzm : z < m
  · -- no tie on the way
    rw [if_pos hzm]
    have hlm : ∀ u ∈ l, u < m := by
      intro u hu
      rcases Nat.lt_or_ge u m with h | h
      · exact h
      · obtain ⟨p, q, hD⟩ := way_tied (e := u - m) hFX.lt hRd haM hl (by rw [show m + (u - m) = u by omega]; exact hu)
        have h3 := hk _ _ _ hD
        rw [show m + (u - m) = u by omega] at h3
        have h4 := (hdW _ _ _ hD).2.2.2.2
        have h5 := h1 u hu
        have h6 := hv z hzm
        omega
    have hij : i = j := by
      have hbA := way_face hFX.nd (List.mem_of_getElem? hx1) (List.mem_of_getElem? hx2) hl hlm
      exact at_uniq hFX.nd ⟨_, hx1, hbA⟩ (at_of hy1 hy2)
    refine ⟨fun _ _ => False, ⟨fun vs w' => vs = [.bool true] ∧ w' = w25, err_i (fun e => absurd rfl e) (fun _ => ⟨by simp, rfl⟩), ?_⟩, fun _ _ h => h.elim⟩
    rintro _ b29 w30 ⟨hvs, rfl⟩
    simp only [List.cons.injEq, Value.bool.injEq, and_true] at hvs
    subst hvs
    refine bif_i (fun _ => ?_) (fun h => by cases h)
    refine (w_Linked hall.1.a haM hbM).mono ?_
    rintro e w33 ⟨ok, rfl, hok, hws⟩
    replace hall := stepW hws hall
    obtain rfl := hok.2 hrt
    refine ⟨_, _, rfl, (hsame hall.1).mono ?_⟩
    rintro e w37 ⟨rfl, hws⟩
    replace hall := stepW hws hall
    exact ⟨_, _, rfl, errV_isI _, bif_i (fun _ => ⟨errV_isI _, bif_i (fun _ => ⟨errV_isI _, bif_i (fun _ => err_i (fun e => absurd rfl e) (fun _ => bif_i (fun _ => sure_fin hg (hcw hall.1)) (fun h => by simp [hij] at h))) (fun h => absurd h (by decide))⟩) (fun h => absurd h (by decide))⟩) (fun h => absurd h (by decide))⟩
  · rw [if_neg hzm]
    obtain ⟨e0, rfl⟩ : ∃ e0, z = m + e0 := ⟨z - m, by omega⟩
    rw [show m + e0 - m = e0 by omega]
    obtain ⟨p, q, hDe⟩ := way_tied hFX.lt hRd haM hl hzl
    obtain ⟨t, htT, rfl, rfl, rfl, htk⟩ := hRr.tie hDe
    obtain ⟨he8, hpm, hqm, hpq, hkm⟩ := hdW _ _ _ hDe
    have hve : v (m + t.e) = t.k := by rw [hk _ _ _ hDe, htk]
    have hDn : upd D t.e none t.e = none := upd_same _ _ _
    have hdl2 : ∀ i u v, upd D t.e none i = some (u, v) → u < m ∧ v < m := fun i u v hi => by
      by_cases hie : i = t.e
      · rw [hie, upd_same] at hi; cases hi
      · rw [upd_ne _ _ hie] at hi; exact hRd i u v hi
    obtain ⟨v0, f0, hv0, hk0⟩ := hall.1.a.f
    have hno : ∀ {c d : Nat}, c < m → ∀ {l'}, Cut.Way (EW X D m) c d l' → m + t.e ∈ l' → ¬ RT (EW X (upd D t.e none) m) c d := by
      intro c d hc l' hl' hm hr
      obtain ⟨l2, hl2⟩ := hr.way
      have h3 : Cut.Way (EW X D m) c d l2 := hl2.congr fun x y h => ew_less h
      have : l' = l2 := f0.uniq (by omega) hl' h3
      subst this
      obtain ⟨u, _, hu⟩ := lk_prev hl2.hd hl2.lk hm (by omega)
      exact ew_alone hDn hFX.lt hdl2 hu
    have hwt : Cut.Way (EW X D m) t.a t.b [t.a, m + t.e, t.b] := by
      refine ⟨rfl, rfl, ?_, ⟨fun y hy => ?_, ⟨fun y hy => ?_, ⟨fun y hy => by simp at hy, trivial⟩⟩⟩⟩
      · simp only [List.nodup_cons, List.mem_cons, List.not_mem_nil, or_false, not_or, List.nodup_nil, and_true, not_false_eq_true]
        omega
      · simp at hy; subst hy; exact .inr ⟨t.e, t.a, t.b, hDe, .inl ⟨rfl, .inl rfl⟩⟩
      · simp at hy; subst hy; exact .inr ⟨t.e, t.a, t.b, hDe, .inr ⟨rfl, .inr rfl⟩⟩
    refine ⟨fun _ w' => w' = w25, ⟨fun vs w' => vs = [.bool false] ∧ w' = w25, err_i (fun e => absurd rfl e) (fun _ => ⟨by simp, rfl⟩), ?_⟩, ?_⟩
    · rintro _ b29 w30 ⟨hvs, rfl⟩
      simp only [List.cons.injEq, Value.bool.injEq, and_true] at hvs
      subst hvs
      exact bif_i (fun h => by cases h) (fun _ => rfl)
    rintro _ w45 rfl
    refine ld4 hall.2.2 ?_
    refine (c_At14 hall.2.1.t (by omega)).mono ?_
    rintro e w51 ⟨zi, rfl, hc, hzi⟩
    replace hall := stepN hc hall
    obtain ⟨i0, t0, rfl, hi0, he0⟩ : ∃ (i0 : Nat) (t0 : Ti), zi = i0 ∧ T[i0]? = some t0 ∧ (t0.e : Int) = t.e := by
      rcases hzi with h | ⟨_, h⟩
      · exact h
      · exact absurd rfl (h t htT)
    have : t0 = t := hRr.inj (List.mem_of_getElem? hi0) htT (by omega)
    subst this
    have hkr : -9223372036854775808 ≤ t0.k := by
      rw [htk, ← hk0 _ _ _ hDe]; exact (f0.vr _).1
    refine ⟨_, rfl, fun _ w' => LW w8 w' W R F L CF CL EB m 8 X (upd D t0.e none) key ∧ RW w' (bd L CL EB Nobody) m 8 D key X T fb fl tb tl tc ∧ Row w'.heap B T_plaitref14_Web [.int .i64 (m : Int), .int .i64 8, .slice fb fl fc, .slice tb tl tc], bif_i (fun h => ?_) (fun _ => ?_), ?_⟩
    · simp only [b1s] at h; omega
    · refine (w_Untie hall.1.a he8 hDe).mono ?_
      rintro e w55 ⟨rfl, hws⟩
      exact ⟨_, rfl, err_i (fun e => absurd rfl e) (fun _ => stepW hws hall)⟩
    rintro _ w57 hall
    refine (w_Linked hall.1.a haM hbM).mono ?_
    rintro e w60 ⟨ok, rfl, hok, hws⟩
    replace hall := stepW hws hall
    have hokf : ok = false := by
      cases ok with
      | false => rfl
      | true => exact absurd (hok.1 rfl) (hno haM hl hzl)
    subst hokf
    refine ⟨_, _, rfl, ldS_r hall.2.2 rfl (hall.2.1.t.ix hi0 fun g o ty cs hr c0 c1 c2 c3 => ?_)⟩
    refine ldI_r hr c0 (ldI_r (o := o + 1) hr c1 (ldI_r (o := o + 2) hr c2 (ldI_r (o := o + 3) hr c3 ?_)))
    refine alo1 fun Q w69 hQ hc69 rQ => st4 rQ rfl rfl rfl rfl rfl fun w73 hc73 rQ => ?_
    have hcQ : Chg Nobody w60 w73 := hc69.trans' hc73 (fun i e => .inr (by omega))
    have hQne : ∀ k, (k = L ∨ k = CL ∨ k = EB) → k ≠ Q := by
      have h1 := hall.1.a.lts
      rintro k hk rfl
      omega
    replace hall := stepN hcQ hall
    have hDback : upd (upd D t0.e none) t0.e (some (t0.a, t0.b)) = D := by rw [upd_upd, ← hDe, upd_self]
    have hkback : upd key t0.e t0.k = key := by rw [htk, upd_self]
    refine ⟨fun _ w' => (LW w8 w' W R F L CF CL EB m 8 X D key ∧ RW w' (bd L CL EB Nobody) m 8 D key X T fb fl tb tl tc ∧ Row w'.heap B T_plaitref14_Web [.int .i64 (m : Int), .int .i64 8, .slice fb fl fc, .slice tb tl tc]) ∧ Row w'.heap Q T_plaitref14_Tie [.int .i64 (t0.e : Int), .int .i64 (t0.a : Int), .int .i64 (t0.b : Int), .int .i64 t0.k],
      err_i (fun e => absurd rfl e) (fun _ => bif_i (fun h => by cases h) (fun _ => ?_)), ?_⟩
    · refine ldI_r (o := 1) rQ rfl (ldI_r (o := 2) rQ rfl (ldI_r (o := 3) rQ rfl ?_))
      refine (w_Tie (k := t0.k) hall.1.a he8 hpm hqm ⟨hkr, by rw [htk]; exact hkm⟩ (hno hpm hwt (by simp)) hDn).mono ?_
      rintro e w79 ⟨rfl, hws⟩
      rw [hDback, hkback] at hws
      exact ⟨_, rfl, err_i (fun e => absurd rfl e) (fun _ => ⟨stepW hws hall, hws.c.row (fun h => hQne Q h rfl) rQ⟩)⟩
    rintro _ w81 ⟨hall, rQ⟩
    obtain ⟨v3, f3, hv3, hk3⟩ := hall.1.a.f
    have hlr : Cut.Way (EW X D m) b a l.reverse := hl.reverse fun x y h => h.symm
    refine (w_Weakest hall.1.a hbM haM hlr).mono ?_
    rintro e w84 ⟨v4, z4, hv4, hk4, ⟨pre4, post4, e4, h14, h24⟩, rfl, hws⟩
    replace hall := stepW hws hall
    replace rQ := hws.c.row (fun h => hQne Q h rfl) rQ
    have hz4l : z4 ∈ l := by rw [← List.mem_reverse, e4]; simp
    have hv4e : v4 (m + t0.e) = t0.k := by rw [hk4 _ _ _ hDe, htk]
    have h54 := h14 (m + t0.e) (by rw [List.mem_reverse]; exact hzl)
    have hz4m : ¬ z4 < m := by
      intro h
      have := hv4 z4 h
      omega
    rw [if_neg hz4m]
    obtain ⟨e1', rfl⟩ : ∃ e1, z4 = m + e1 := ⟨z4 - m, by omega⟩
    rw [show m + e1' - m = e1' by omega]
    obtain ⟨p', q', hDe1⟩ := way_tied hFX.lt hRd haM hl hz4l
    obtain ⟨t1, ht1T, rfl, rfl, rfl, ht1k⟩ := hRr.tie hDe1
    have hkeys : t1.k = t0.k := by
      have g1 := h1 _ hz4l
      have g2 := hk _ _ _ hDe1
      have g3 := hk4 _ _ _ hDe1
      omega
    refine ⟨_, _, rfl, ld4 hall.2.2 ?_⟩
    refine (c_At14 hall.2.1.t (by omega)).mono ?_
    rintro e w91 ⟨zi, rfl, hc, hzi⟩
    replace hall := stepN hc hall
    replace rQ := hc.row (fun h => h) rQ
    obtain ⟨i1, t1', rfl, hi1, he1⟩ : ∃ (i1 : Nat) (t1' : Ti), zi = i1 ∧ T[i1]? = some t1' ∧ (t1'.e : Int) = t1.e := by
      rcases hzi with h | ⟨_, h⟩
      · exact h
      · exact absurd rfl (h t1 ht1T)
    have : t1' = t1 := hRr.inj (List.mem_of_getElem? hi1) ht1T (by omega)
    subst this
    replace hall := stepN ((Chg.refl _ _).drew) hall
    refine ⟨_, rfl, errV_isI _, bif_i (fun _ => bif_i (fun _ => ?_) (fun h => ?_)) (fun h => absurd h (by decide))⟩
    · refine ldS_r hall.2.2 rfl (hall.2.1.t.ix hi1 fun g o ty cs hr c0 c1 c2 c3 => ?_)
      have rQd : Row (World.drew w91).heap Q T_plaitref14_Tie [.int .i64 (t0.e : Int), .int .i64 (t0.a : Int), .int .i64 (t0.b : Int), .int .i64 t0.k] := rQ
      refine ldI_r (o := o + 3) hr c3 (ldI_r (o := 3) rQd rfl (bif_i (fun _ => sure_fin hg (hcw hall.1)) (fun h => ?_)))
      simp only [b1s] at h
      exact absurd hkeys h
    · simp only [b1s] at h; omega
end Web
end Go.Proofs.YtaoemljoiahapaaGreatDoor
