/-
Trees of layer 4 joined, cut, turned, and a value set: the plain mathematics.
Conditions: those that each theorem states.
-/
import Derived.Test.YtledchlbmilneaaDoorSeqH
namespace Go.Proofs.YtledchlbmilneaaDoor
open Go
set_option linter.unusedVariables false
set_option linter.unusedSimpArgs false
namespace Seq
section
variable {n : Nat} {s : S} {v : Nat → Int} {l r t u : T} {ts : List T} {x y b : Nat}

/-- The records at a place, the rest of the forest being as it was. -/
theorem Fo.make {s' : S} {ts' : List T} (h : Fo n s v (t :: ts)) (hr : ∀ t' ∈ ts', Rep s' v (-1) t' ∧ t' ≠ .nil) (ho : ∀ z, z ∉ t.ls → Eqv s s' z) (hp : (ts'.flatMap T.ls).Perm t.ls) : Fo n s' v (ts' ++ ts) := by
  refine ⟨h.vr, ?_, ?_, h.small⟩
  · intro u hu
    rcases List.mem_append.1 hu with hu | hu
    · exact hr u hu
    · have h1 := h.rep u (by simp [hu])
      exact ⟨h1.1.congr fun z hz => ho z (h.apart hu hz), h1.2⟩
  · rw [List.flatMap_append]
    refine (hp.append_right _).trans ?_
    have := h.perm
    rwa [List.flatMap_cons] at this

theorem Fo.two (h : Fo n s v (t :: u :: ts)) : ∀ z ∈ u.ls, z ∉ t.ls := fun z hz => h.apart (by simp) hz

theorem fo_join (h : Fo n s v (.node l y false .nil :: u :: ts)) (hu : u.rt = b) : Fo n (pullS (hangS s b y false) y) v (.node l y false u :: ts) := by
  have hby : (b : Int) = u.rt := hu.symm
  have hbm := rt_mem hby
  have hap := h.two
  have hyl : y ∈ (T.node l y false .nil).ls := by simp [T.ls]
  have hby' : b ≠ y := fun e => hap b hbm (e ▸ hyl)
  have hbn : (b : Int).toNat = b := by omega
  have hyn : (y : Int).toNat = y := by omega
  have hb1 : (b : Int) ≠ -1 := by omega
  obtain ⟨⟨hY, hl, _⟩, _⟩ := h.rep _ (List.mem_cons_self ..)
  have hU := (h.rep u (by simp)).1
  have k2 : Fo n s v (u :: .node l y false .nil :: ts) := h.reorder (List.Perm.swap _ _ _)
  have hund := k2.tr.nd
  have htnd := h.tr.nd
  simp only [T.ls, List.nodup_append, List.nodup_cons] at htnd
  obtain ⟨ndl, _, dl⟩ := htnd
  have q : ∀ z, EqA s (hangS s b y false) z := hang_rest s b y false
  have qu : ∀ z, (hangS s b y false).up z = if z = b then (y : Int) else s.up z := fun z => by rw [hang_up, hbn]; simp [hb1]
  have ql : ∀ z, (hangS s b y false).left z = s.left z := fun z => by rw [hang_left]; simp
  have qr : ∀ z, (hangS s b y false).right z = if z = y then (b : Int) else s.right z := fun z => by rw [hang_right, hyn]; simp
  have e4 : ∀ z, z ≠ y → z ≠ b → Eqv s (hangS s b y false) z := fun z h1 h2 =>
    ⟨by rw [qu, if_neg h2], ql z, by rw [qr, if_neg h1], (q z).turned, (q z).size, (q z).value, (q z).sum, (q z).least, (q z).most⟩
  have e6 : ∀ z, z ≠ y → z ≠ b → Eqv s (pullS (hangS s b y false) y) z := fun z h1 h2 => (e4 z h1 h2).trans (pull_other _ y z h1)
  have hlb : ∀ z ∈ l.ls, z ≠ y ∧ z ≠ b := fun z hz => ⟨fun e => dl z hz y (by simp) e, fun e => hap b hbm (by rw [← e]; simp [T.ls, hz])⟩
  have RL : Rep (pullS (hangS s b y false) y) v y l := hl.congr fun z hz => e6 z (hlb z hz).1 (hlb z hz).2
  have RU : Rep (pullS (hangS s b y false) y) v y u := by
    refine hU.relink (fun z hz hne => e6 z (fun e => hap z hz (by rw [e]; exact hyl)) (by omega)) (fun z hz => ?_) hund
    have hzb : z = b := by omega
    subst hzb
    have o := pull_other (hangS s z y false) y z hby'
    exact ⟨⟨o.turned.trans (q z).turned, o.size.trans (q z).size, o.value.trans (q z).value, o.sum.trans (q z).sum, o.least.trans (q z).least, o.most.trans (q z).most⟩, o.left.trans (ql z), by rw [o.right, qr, if_neg hby'], by rw [o.up, qu, if_pos rfl]⟩
  have hlen : (l.ls ++ y :: u.ls).length ≤ 1073741824 := by
    have h1 := h.perm.length_eq
    have h2 := h.small
    simp [T.ls] at h1
    simp; omega
  have NY : Nd (pullS (hangS s b y false) y) v y (-1) l false u := by
    refine pull_nd h.vr (by rw [qu, if_neg (Ne.symm hby'), hY.up]) (by rw [ql, hY.left]) (by rw [qr, if_pos rfl, hu]) ((q y).turned.trans hY.turned) ((q y).value.trans hY.value)
      (fun z hz => (hl.root hz).2.1.congr (q z)) (fun z hz => (hU.root hz).2.1.congr (q z)) (fun e => (hlb y (rt_mem e.symm)).1 rfl) (by omega) hlen
  have hF : Fo n (pullS (hangS s b y false) y) v (.node l y false u :: ts) := by
    refine ⟨h.vr, ?_, ?_, h.small⟩
    · intro t' ht'
      rcases List.mem_cons.1 ht' with rfl | ht2
      · exact ⟨⟨NY, RL, RU⟩, by simp⟩
      · have h1 := h.rep t' (by simp [ht2])
        refine ⟨h1.1.congr fun z hz => e6 z ?_ ?_, h1.2⟩
        · rintro rfl; exact h.apart (List.mem_cons_of_mem _ ht2) hz hyl
        · rintro rfl; exact k2.apart (List.mem_cons_of_mem _ ht2) hz hbm
    · have := h.perm
      simp only [List.flatMap_cons, T.ls, List.append_assoc, List.cons_append, List.nil_append] at this ⊢
      exact this
  exact hF

theorem fo_cut (h : Fo n s v (.node l x false r :: ts)) (hl : l ≠ .nil) : Fo n (pullS ((s.w_up l.rt.toNat (-1)).w_left x (-1)) x) v (l :: .node .nil x false r :: ts) := by
  obtain ⟨⟨hX, hL, hR⟩, _⟩ := h.rep _ (List.mem_cons_self ..)
  obtain ⟨z0, hz0⟩ : ∃ z : Nat, (z : Int) = l.rt := by
    cases l with
    | nil => exact absurd rfl hl
    | node a y b c => exact ⟨y, rfl⟩
  have hzm := rt_mem hz0
  have htnd := h.tr.nd
  simp only [T.ls, List.nodup_append, List.nodup_cons] at htnd
  obtain ⟨ndl, ⟨hxr, ndr⟩, dl⟩ := htnd
  have hzx : z0 ≠ x := fun e => dl z0 hzm x (by simp) e
  have hzn : l.rt.toNat = z0 := by omega
  rw [hzn]
  have eu : ∀ z, ((s.w_up z0 (-1)).w_left x (-1)).up z = if z = z0 then -1 else s.up z := fun z => by simp [upd]
  have el : ∀ z, ((s.w_up z0 (-1)).w_left x (-1)).left z = if z = x then -1 else s.left z := fun z => by simp [upd]
  have e4 : ∀ z, z ≠ x → z ≠ z0 → Eqv s ((s.w_up z0 (-1)).w_left x (-1)) z := fun z h1 h2 => ⟨by rw [eu, if_neg h2], by rw [el, if_neg h1], rfl, rfl, rfl, rfl, rfl, rfl, rfl⟩
  have e6 : ∀ z, z ≠ x → z ≠ z0 → Eqv s (pullS ((s.w_up z0 (-1)).w_left x (-1)) x) z := fun z h1 h2 => (e4 z h1 h2).trans (pull_other _ x z h1)
  have RL : Rep (pullS ((s.w_up z0 (-1)).w_left x (-1)) x) v (-1) l := by
    refine hL.relink (fun z hz hne => e6 z (fun e => dl z hz x (by simp) e) (by omega)) (fun z hz => ?_) ndl
    have hzz : z = z0 := by omega
    subst hzz
    have o := pull_other ((s.w_up z (-1)).w_left x (-1)) x z hzx
    exact ⟨⟨o.turned, o.size, o.value, o.sum, o.least, o.most⟩, by rw [o.left, el, if_neg hzx], o.right, by rw [o.up, eu, if_pos rfl]⟩
  have RR : Rep (pullS ((s.w_up z0 (-1)).w_left x (-1)) x) v x r := hR.congr fun z hz => e6 z (fun e => hxr (e ▸ hz)) (fun e => dl z0 hzm z0 (by simp [← e, hz]) rfl)
  have hlen : (T.nil.ls ++ x :: r.ls).length ≤ 1073741824 := by
    have h1 := h.perm.length_eq
    have h2 := h.small
    simp [T.ls] at h1
    simp [T.ls]; omega
  have NX : Nd (pullS ((s.w_up z0 (-1)).w_left x (-1)) x) v x (-1) .nil false r := by
    refine pull_nd h.vr (by rw [eu, if_neg (Ne.symm hzx), hX.up]) (by rw [el, if_pos rfl]; rfl) hX.right hX.turned hX.value (fun z hz => by simp [T.rt] at hz) (fun z hz => (hR.root hz).2.1.congr ⟨rfl, rfl, rfl, rfl, rfl, rfl⟩) (by simp [T.rt]) (fun e => hxr (rt_mem e.symm)) hlen
  refine h.make (ts' := [l, .node .nil x false r]) ?_ ?_ ?_
  · intro t' ht'
    simp only [List.mem_cons, List.not_mem_nil, or_false] at ht'
    rcases ht' with rfl | rfl
    · exact ⟨RL, hl⟩
    · exact ⟨⟨NX, trivial, RR⟩, by simp⟩
  · intro z hz
    simp only [T.ls, List.mem_append, List.mem_cons, not_or] at hz
    exact e6 z hz.2.1 (fun e => hz.1 (by rw [e]; exact hzm))
  · simp [T.ls]

theorem fo_turn (h : Fo n s v (.node l x false r :: ts)) : Fo n (s.w_turned x (!(s.turned x))) v (.node l x true r :: ts) := by
  obtain ⟨⟨hX, hL, hR⟩, _⟩ := h.rep _ (List.mem_cons_self ..)
  have htnd := h.tr.nd
  simp only [T.ls, List.nodup_append, List.nodup_cons] at htnd
  obtain ⟨ndl, ⟨hxr, ndr⟩, dl⟩ := htnd
  have e6 : ∀ z, z ≠ x → Eqv s (s.w_turned x (!(s.turned x))) z := fun z h1 => ⟨rfl, rfl, rfl, by simp [upd, h1], rfl, rfl, rfl, rfl, rfl⟩
  refine h.make (ts' := [.node l x true r]) ?_ ?_ ?_
  · intro t' ht'
    simp only [List.mem_singleton] at ht'
    subst ht'
    refine ⟨⟨⟨hX.up, hX.left, hX.right, by simp [upd, hX.turned], hX.value, hX.agg.size, hX.agg.sum, hX.agg.least, hX.agg.most⟩, hL.congr fun z hz => e6 z (fun e => dl z hz x (by simp) e), hR.congr fun z hz => e6 z (fun e => hxr (e ▸ hz))⟩, by simp⟩
  · intro z hz
    simp only [T.ls, List.mem_append, List.mem_cons, not_or] at hz
    exact e6 z hz.2.1
  · simp [T.ls]

theorem IsMn.vcongr {v v' : Nat → Int} {l : List Nat} {m : Int} (h : IsMn v l m) (e : ∀ y ∈ l, v' y = v y) : IsMn v' l m :=
  ⟨let ⟨y, hy, k⟩ := h.1; ⟨y, hy, by rw [e y hy, k]⟩, fun y hy => by rw [e y hy]; exact h.2 y hy⟩
theorem IsMx.vcongr {v v' : Nat → Int} {l : List Nat} {m : Int} (h : IsMx v l m) (e : ∀ y ∈ l, v' y = v y) : IsMx v' l m :=
  ⟨let ⟨y, hy, k⟩ := h.1; ⟨y, hy, by rw [e y hy, k]⟩, fun y hy => by rw [e y hy]; exact h.2 y hy⟩
theorem vsum_congr {v v' : Nat → Int} {l : List Nat} (e : ∀ y ∈ l, v' y = v y) : vsum v' l = vsum v l := by
  unfold vsum; rw [List.map_congr_left e]
theorem Agg.vcongr {s : S} {v v' : Nat → Int} {x : Nat} {l : List Nat} (h : Agg s v x l) (e : ∀ y ∈ l, v' y = v y) : Agg s v' x l :=
  ⟨h.size, by rw [h.sum, vsum_congr e], h.least.vcongr e, h.most.vcongr e⟩
theorem Rep.vcongr {s : S} {v v' : Nat → Int} {t : T} : ∀ {p : Int}, Rep s v p t → (∀ y ∈ t.ls, v' y = v y) → Rep s v' p t := by
  induction t with
  | nil => intro p _ _; trivial
  | node l x b r hl hr =>
    intro p h e
    refine ⟨⟨h.1.up, h.1.left, h.1.right, h.1.turned, by rw [h.1.value, e x (by simp [T.ls])], h.1.agg.vcongr e⟩, hl h.2.1 fun y hy => e y (by simp [T.ls, hy]), hr h.2.2 fun y hy => e y (by simp [T.ls, hy])⟩

theorem fo_set (h : Fo n s v (.node l x false r :: ts)) {z : Int} (hz : -9223372036854775808 ≤ z ∧ z ≤ 9223372036854775807) : Fo n (pullS (s.w_value x z) x) (upd v x z) (.node l x false r :: ts) := by
  obtain ⟨⟨hX, hL, hR⟩, _⟩ := h.rep _ (List.mem_cons_self ..)
  have htnd := h.tr.nd
  simp only [T.ls, List.nodup_append, List.nodup_cons] at htnd
  obtain ⟨ndl, ⟨hxr, ndr⟩, dl⟩ := htnd
  have hvr : VR (upd v x z) := fun y => by unfold upd; split; exact hz; exact h.vr y
  have e6 : ∀ y, y ≠ x → Eqv s (pullS (s.w_value x z) x) y := fun y h1 => (Eqv.trans (b := s.w_value x z) ⟨rfl, rfl, rfl, rfl, rfl, by simp [upd, h1], rfl, rfl, rfl⟩ (pull_other _ x y h1))
  have hvl : ∀ y ∈ l.ls, upd v x z y = v y := fun y hy => upd_ne _ _ (fun e => dl y hy x (by simp) e)
  have hvr' : ∀ y ∈ r.ls, upd v x z y = v y := fun y hy => upd_ne _ _ (fun e => hxr (e ▸ hy))
  have hlen : (l.ls ++ x :: r.ls).length ≤ 1073741824 := by
    have h1 := h.perm.length_eq
    have h2 := h.small
    simp [T.ls] at h1
    simp; omega
  have NX : Nd (pullS (s.w_value x z) x) (upd v x z) x (-1) l false r := by
    refine pull_nd hvr hX.up hX.left hX.right hX.turned (by simp [upd_same]) (fun y hy => ((hL.root hy).2.1.vcongr hvl).congr ⟨rfl, rfl, ?_, rfl, rfl, rfl⟩) (fun y hy => ((hR.root hy).2.1.vcongr hvr').congr ⟨rfl, rfl, ?_, rfl, rfl, rfl⟩) (fun e => dl x (rt_mem e.symm) x (by simp) rfl) (fun e => hxr (rt_mem e.symm)) hlen
    · have : y ≠ x := fun e => dl y (rt_mem hy) x (by simp) e
      simp [upd, this]
    · have : y ≠ x := fun e => hxr (e ▸ rt_mem hy)
      simp [upd, this]
  refine ⟨hvr, ?_, h.perm, h.small⟩
  intro t' ht'
  rcases List.mem_cons.1 ht' with rfl | ht'
  · exact ⟨⟨NX, (hL.vcongr hvl).congr fun y hy => e6 y (fun e => dl y hy x (by simp) e), (hR.vcongr hvr').congr fun y hy => e6 y (fun e => hxr (e ▸ hy))⟩, by simp⟩
  · have h1 := h.rep t' (by simp [ht'])
    have hne : ∀ y ∈ t'.ls, y ≠ x := fun y hy e => h.apart ht' hy (by rw [e]; simp [T.ls])
    exact ⟨(h1.1.vcongr fun y hy => upd_ne _ _ (hne y hy)).congr fun y hy => e6 y (hne y hy), h1.2⟩
end
end Seq
end Go.Proofs.YtledchlbmilneaaDoor
