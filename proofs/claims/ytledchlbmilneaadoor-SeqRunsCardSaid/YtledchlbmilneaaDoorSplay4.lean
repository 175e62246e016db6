/-
Trees that are kept in records with links: what was put off is done; the way down to a node.
Conditions: those that each theorem states.
-/
import Derived.Test.YtledchlbmilneaaDoorSplay3
namespace Go.Proofs.YtledchlbmilneaaDoor
open Go
set_option linter.unusedVariables false
set_option linter.unusedSimpArgs false
namespace Seq

theorem tog_turned (s : S) (c : Int) (y : Nat) : (tog s c).turned y = if c ≠ -1 ∧ y = c.toNat then !(s.turned y) else s.turned y := by
  unfold tog
  by_cases h : c = -1
  · simp [h]
  · simp only [if_neg h, S.turned_w_turned, upd]
    by_cases e : y = c.toNat <;> simp [e, h]
structure EqT (s s' : S) : Prop where
  up : s'.up = s.up
  left : s'.left = s.left
  right : s'.right = s.right
  size : s'.size = s.size
  value : s'.value = s.value
  sum : s'.sum = s.sum
  least : s'.least = s.least
  most : s'.most = s.most
theorem tog_rest (s : S) (c : Int) : EqT s (tog s c) := by
  unfold tog; split <;> constructor <;> simp

/-- A tree whose top's flag is turned over. -/
theorem Rep.flip {s s' : S} {v : Nat → Int} {t : T} {p q : Int} (h : Rep s v p t) (he : ∀ y ∈ t.ls, (y : Int) ≠ t.rt → Eqv s s' y)
    (ha : ∀ y : Nat, (y : Int) = t.rt → s'.turned y = !(s.turned y) ∧ s'.size y = s.size y ∧ s'.value y = s.value y ∧ s'.sum y = s.sum y ∧ s'.least y = s.least y ∧ s'.most y = s.most y ∧ s'.left y = s.left y ∧ s'.right y = s.right y ∧ s'.up y = q) (hn : t.ls.Nodup) : Rep s' v q t.flip := by
  cases t with
  | nil => trivial
  | node l x b r =>
    obtain ⟨hN, hl, hr⟩ := h
    obtain ⟨e1, e2, e3, e4, e5, e6, e7, e8, e9⟩ := ha x rfl
    simp only [T.ls] at hn
    rw [List.nodup_append] at hn
    obtain ⟨hn1, hn2, hn3⟩ := hn
    rw [List.nodup_cons] at hn2
    have hag := hN.agg
    refine ⟨⟨e9, by rw [e7, hN.left], by rw [e8, hN.right], by rw [e1, hN.turned], by rw [e3, hN.value], ⟨by rw [e2]; exact hag.size, by rw [e4]; exact hag.sum, by rw [e5]; exact hag.least, by rw [e6]; exact hag.most⟩⟩, ?_, ?_⟩
    · refine hl.congr fun y hy => he y (by simp [T.ls, hy]) ?_
      have := hn3 y hy x (by simp)
      simp only [T.rt]; omega
    · refine hr.congr fun y hy => he y (by simp [T.ls, hy]) ?_
      have : y ≠ x := fun e => hn2.1 (e ▸ hy)
      simp only [T.rt]; omega

def pushT (l : T) (x : Nat) (b : Bool) (r : T) : T := if b then .node r.flip x false l.flip else .node l x false r
theorem pushT_seq (l : T) (x : Nat) (b : Bool) (r : T) : (pushT l x b r).seq = (T.node l x b r).seq := by
  unfold pushT; cases b <;> simp [T.seq, T.flip_seq]
theorem pushT_ls (l : T) (x : Nat) (b : Bool) (r : T) : (T.node l x b r).ls.Perm (pushT l x b r).ls := by
  unfold pushT; cases b <;> simp only [if_true, Bool.false_eq_true, if_false, T.ls, T.flip_ls]
  · exact List.Perm.refl _
  · refine (List.perm_append_comm).trans ?_
    rw [List.cons_append]
    exact (List.perm_middle (l₁ := r.ls) (l₂ := l.ls) (a := x)).symm
theorem pushT_rt (l : T) (x : Nat) (b : Bool) (r : T) : (pushT l x b r).rt = x := by unfold pushT; cases b <;> rfl
theorem pushT_shape (l : T) (x : Nat) (b : Bool) (r : T) : ∃ l' r', pushT l x b r = .node l' x false r' := by
  unfold pushT; cases b
  · exact ⟨_, _, rfl⟩
  · exact ⟨_, _, rfl⟩

theorem push_rep {s : S} {v : Nat → Int} {top : Int} {c : List Fr} {l r : T} {x : Nat} {b : Bool} (hR : Rep s v top (plug c (.node l x b r))) (hn : (plug c (.node l x b r)).ls.Nodup) :
    Rep (pushS s x) v top (plug c (pushT l x b r)) ∧ ∀ y, y ∉ (plug c (.node l x b r)).ls → Eqv s (pushS s x) y := by
  have hx : (x : Int).toNat = x := by omega
  obtain ⟨⟨hX, hl, hr⟩, hC⟩ := (rep_plug c _).1 hR
  cases b with
  | false =>
    have e : pushS s x = s := by unfold pushS; rw [hx, hX.turned]; simp
    rw [e]; exact ⟨hR, fun y _ => Eqv.refl s y⟩
  | true =>
    have hnd := (plug_ls c (.node l x true r)).nodup_iff.1 hn
    simp only [T.ls, List.append_assoc, List.cons_append, List.nodup_append, List.nodup_cons, List.mem_append, List.mem_cons, not_or] at hnd
    obtain ⟨ndl, ⟨⟨hxr, hxc⟩, ndr, ndc, drc'⟩, dl'⟩ := hnd
    have dlx : ∀ y ∈ l.ls, y ≠ x := fun y hy => dl' y hy x (.inl rfl)
    have dlr : ∀ y ∈ l.ls, y ∈ r.ls → False := fun y hy hy' => dl' y hy y (.inr (.inl hy')) rfl
    have dlc : ∀ y ∈ l.ls, y ∈ cls c → False := fun y hy hy' => dl' y hy y (.inr (.inr hy')) rfl
    have drx : ∀ y ∈ r.ls, y ≠ x := fun y hy e => hxr (e ▸ hy)
    have drc : ∀ y ∈ r.ls, y ∈ cls c → False := fun y hy hy' => drc' y hy y hy' rfl
    have hlx : ∀ y : Nat, (y : Int) = l.rt → y ≠ x := fun y h => dlx y (rt_mem h)
    have hrx : ∀ y : Nat, (y : Int) = r.rt → y ≠ x := fun y h => drx y (rt_mem h)
    have hl1 : -1 ≤ l.rt := by rcases rt_cases l with h | ⟨y, h, _⟩ <;> omega
    have hr1 : -1 ≤ r.rt := by rcases rt_cases r with h | ⟨y, h, _⟩ <;> omega
    have e : pushS s x = tog (tog (swapS s x) r.rt) l.rt := by
      unfold pushS; rw [hx, hX.turned, hX.left, hX.right]; simp
    rw [e]
    have q1 := tog_rest (swapS s x) r.rt
    have q2 := tog_rest (tog (swapS s x) r.rt) l.rt
    have tt : ∀ y, (tog (tog (swapS s x) r.rt) l.rt).turned y = if y = x then false else if (y : Int) = l.rt ∨ (y : Int) = r.rt then !(s.turned y) else s.turned y := by
      intro y
      rw [tog_turned, tog_turned]
      have h0 : (swapS s x).turned y = if y = x then false else s.turned y := by simp [swapS, upd]
      rw [h0]
      by_cases h1 : y = x
      · subst h1
        have a1 : ¬ (l.rt ≠ -1 ∧ y = l.rt.toNat) := fun h => hlx y (by omega) rfl
        have a2 : ¬ (r.rt ≠ -1 ∧ y = r.rt.toNat) := fun h => hrx y (by omega) rfl
        rw [if_neg a1, if_neg a2]; simp
      · simp only [if_neg h1]
        by_cases h2 : (y : Int) = l.rt
        · have a2 : ¬ (r.rt ≠ -1 ∧ y = r.rt.toNat) := fun h => dlr y (rt_mem h2) (rt_mem (by omega))
          rw [if_pos ⟨by omega, by omega⟩, if_neg a2, if_pos (.inl h2)]
        · rw [if_neg (by omega)]
          by_cases h3 : (y : Int) = r.rt
          · rw [if_pos ⟨by omega, by omega⟩, if_pos (.inr h3)]
          · rw [if_neg (by omega), if_neg (by simp [h2, h3])]
    have ll : ∀ y, (tog (tog (swapS s x) r.rt) l.rt).left y = if y = x then r.rt else s.left y := by
      intro y; rw [q2.left, q1.left]; simp [swapS, upd, hX.right]
    have rr : ∀ y, (tog (tog (swapS s x) r.rt) l.rt).right y = if y = x then l.rt else s.right y := by
      intro y; rw [q2.right, q1.right]; simp [swapS, upd, hX.left]
    have uu : ∀ y, (tog (tog (swapS s x) r.rt) l.rt).up y = s.up y := by intro y; rw [q2.up, q1.up]; simp [swapS]
    have zz : ∀ y, (tog (tog (swapS s x) r.rt) l.rt).size y = s.size y := by intro y; rw [q2.size, q1.size]; simp [swapS]
    have vv : ∀ y, (tog (tog (swapS s x) r.rt) l.rt).value y = s.value y := by intro y; rw [q2.value, q1.value]; simp [swapS]
    have su : ∀ y, (tog (tog (swapS s x) r.rt) l.rt).sum y = s.sum y := by intro y; rw [q2.sum, q1.sum]; simp [swapS]
    have le : ∀ y, (tog (tog (swapS s x) r.rt) l.rt).least y = s.least y := by intro y; rw [q2.least, q1.least]; simp [swapS]
    have mo : ∀ y, (tog (tog (swapS s x) r.rt) l.rt).most y = s.most y := by intro y; rw [q2.most, q1.most]; simp [swapS]
    have eq : ∀ y, y ≠ x → (y : Int) ≠ l.rt → (y : Int) ≠ r.rt → Eqv s (tog (tog (swapS s x) r.rt) l.rt) y := fun y h1 h2 h3 =>
      ⟨uu y, by rw [ll, if_neg h1], by rw [rr, if_neg h1], by rw [tt, if_neg h1, if_neg (by simp [h2, h3])], zz y, vv y, su y, le y, mo y⟩
    have fl : ∀ (t : T), (t = l ∨ t = r) → ∀ y : Nat, (y : Int) = t.rt → y ≠ x → (tog (tog (swapS s x) r.rt) l.rt).turned y = !(s.turned y) ∧ (tog (tog (swapS s x) r.rt) l.rt).size y = s.size y ∧ (tog (tog (swapS s x) r.rt) l.rt).value y = s.value y ∧ (tog (tog (swapS s x) r.rt) l.rt).sum y = s.sum y ∧ (tog (tog (swapS s x) r.rt) l.rt).least y = s.least y ∧ (tog (tog (swapS s x) r.rt) l.rt).most y = s.most y ∧ (tog (tog (swapS s x) r.rt) l.rt).left y = s.left y ∧ (tog (tog (swapS s x) r.rt) l.rt).right y = s.right y := by
      intro t ht y hy hne
      refine ⟨?_, zz y, vv y, su y, le y, mo y, by rw [ll, if_neg hne], by rw [rr, if_neg hne]⟩
      rw [tt, if_neg hne, if_pos]
      rcases ht with rfl | rfl
      · exact .inl hy
      · exact .inr hy
    have hp : (T.node l x true r).ls.Perm (T.node r.flip x false l.flip).ls := pushT_ls l x true r
    refine ⟨(rep_plug c _).2 ⟨⟨⟨?_, ?_, ?_, ?_, ?_, ?_⟩, ?_, ?_⟩, ?_⟩, fun y hy => ?_⟩
    · rw [uu, hX.up]
    · rw [ll, if_pos rfl, T.flip_rt]
    · rw [rr, if_pos rfl, T.flip_rt]
    · rw [tt, if_pos rfl]
    · rw [vv, hX.value]
    · exact Agg.perm (l := l.ls ++ x :: r.ls) ⟨by rw [zz]; exact hX.agg.size, by rw [su]; exact hX.agg.sum, by rw [le]; exact hX.agg.least, by rw [mo]; exact hX.agg.most⟩ hp
    · exact hr.flip (fun y hy hne => eq y (drx y hy) (fun e => dlr y (rt_mem e) hy) hne) (fun y hy => by
        obtain ⟨a1, a2, a3, a4, a5, a6, a7, a8⟩ := fl r (.inr rfl) y hy (hrx y hy)
        exact ⟨a1, a2, a3, a4, a5, a6, a7, a8, by rw [uu, (hr.root hy).1]⟩) ndr
    · exact hl.flip (fun y hy hne => eq y (dlx y hy) hne (fun e => dlr y hy (rt_mem e))) (fun y hy => by
        obtain ⟨a1, a2, a3, a4, a5, a6, a7, a8⟩ := fl l (.inl rfl) y hy (hlx y hy)
        exact ⟨a1, a2, a3, a4, a5, a6, a7, a8, by rw [uu, (hl.root hy).1]⟩) ndl
    · refine RepC.congr (u := .node l x true r) c (fun y hy => eq y (fun e => hxc (e ▸ hy)) (fun e => dlc y (rt_mem e) hy) (fun e => drc y (rt_mem e) hy)) rfl hp hC
    · rw [(plug_ls c _).mem_iff] at hy
      simp only [T.ls, List.mem_append, List.mem_cons, not_or] at hy
      exact eq y hy.1.2.1 (fun e => hy.1.1 (rt_mem e)) (fun e => hy.1.2.2 (rt_mem e))
end Seq
end Go.Proofs.YtledchlbmilneaaDoor
