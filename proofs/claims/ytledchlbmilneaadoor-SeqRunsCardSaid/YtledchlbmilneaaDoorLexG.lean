/-
A reading of a function's code as one formula: regions whose order is drawn, and whole functions.
Conditions: none; every theorem here is over any program.
-/
import Derived.Test.YtledchlbmilneaaDoorLexR
namespace Go.Proofs.YtledchlbmilneaaDoor
open Go
set_option linter.unusedVariables false
set_option linter.unusedSimpArgs false

/-! ## A load may be taken first, if nothing that can come ahead of it writes its cells -/
section
variable {P : Program} {ops : Array Oper} {Q : Exit → Act → World → Prop} {md : Region.Mode}
abbrev Grds := List (List Nat × (World → Prop))
def Un (listed : Array Bool) (D : List Nat) : Prop := ∀ d ∈ D, listed.getD d true = false
def Gok (G : Grds) (listed : Array Bool) (i : Nat) (w : World) : Prop := ∀ g ∈ G, i ∉ g.1 → Un listed g.1 → g.2 w

def wpAnyG (P : Program) (md : Region.Mode) (ops : Array Oper) (Q : Exit → Act → World → Prop) (G : Grds) : Nat → Array Bool → Act → World → Prop
  | 0, listed, a, w => Region.ready md ops listed = [] ∧ Q .normal a w
  | fuel + 1, listed, a, w =>
    (Region.ready md ops listed = [] → Q .normal a w) ∧
    ∀ i ∈ Region.ready md ops listed, wpOp P ops Q i (fun a' w' => Gok G listed i w' ∧ wpAnyG P md ops Q G fuel (listed.setIfInBounds i true) a' w') a w

theorem wpAny_of_G : ∀ (fuel : Nat) (listed : Array Bool) (a : Act) (w : World) (G : Grds), wpAnyG P md ops Q G fuel listed a w → wpAny P md ops Q fuel listed a w
  | 0, _, _, _, _, h => h
  | fuel + 1, _, _, _, G, h => ⟨h.1, fun i hi => wpOp_mono (fun a' w' h' => wpAny_of_G fuel _ a' w' G h'.2) (h.2 i hi)⟩

theorem un_set {listed : Array Bool} {D : List Nat} {i : Nat} (h : Un (listed.setIfInBounds i true) D) : Un listed D := by
  intro d hd
  have := h d hd
  by_cases hid : i = d
  · subst hid
    rcases Nat.lt_or_ge i listed.size with h' | h'
    · simp [h'] at this
    · simp [Array.getElem?_eq_none h'] at this
  · rwa [getD_set_ne true hid] at this
theorem un_set_of {listed : Array Bool} {D : List Nat} {i : Nat} (h : Un listed D) (hi : i ∉ D) : Un (listed.setIfInBounds i true) D := by
  intro d hd
  have hid : i ≠ d := fun e => hi (by rw [e]; exact hd)
  rw [getD_set_ne true hid]
  exact h d hd
theorem not_un_of_mem {listed : Array Bool} {D : List Nat} {i : Nat} (hi : i ∈ D) : ¬ Un (listed.setIfInBounds i true) D := by
  intro h
  have := h i hi
  rcases Nat.lt_or_ge i listed.size with h' | h'
  · simp [h'] at this
  · simp [Array.getElem?_eq_none h'] at this

theorem wpAnyG_weaken {G G' : Grds} : ∀ (fuel : Nat) (listed : Array Bool) (a : Act) (w : World), (∀ g ∈ G, g ∈ G' ∨ ¬ Un listed g.1 ∨ ∀ w, g.2 w) → wpAnyG P md ops Q G' fuel listed a w → wpAnyG P md ops Q G fuel listed a w
  | 0, _, _, _, _, h => h
  | fuel + 1, listed, a, w, hG, h => ⟨h.1, fun i hi => wpOp_mono (fun a' w' h' => ⟨fun g hg hig hu => (hG g hg).elim (fun hm => h'.1 g hm hig hu) (fun hn => hn.elim (fun hn => (hn hu).elim) (fun ht => ht w')),
      wpAnyG_weaken fuel _ a' w' (fun g hg => (hG g hg).imp id fun hn => hn.imp (fun hn hu => hn (un_set hu)) id) h'.2⟩) (h.2 i hi)⟩

/-- The operations of D all wait for i. -/
def Waits (md : Region.Mode) (ops : Array Oper) (i : Nat) (D : List Nat) : Prop := ∀ j ∈ D, ∃ oj, ops[j]? = some oj ∧ ∃ e ∈ oj.after, Region.binds md e = true ∧ (e.on = i ∨ e.on ∈ D)
def memB (i : Nat) (D : List Nat) : Bool := D.any fun d => Nat.beq i d
theorem memB_iff {i : Nat} {D : List Nat} : memB i D = true ↔ i ∈ D := by
  simp only [memB, List.any_eq_true, Nat.beq_eq]
  exact ⟨fun ⟨d, hd, h⟩ => h ▸ hd, fun h => ⟨i, h, rfl⟩⟩
def waitsB (md : Region.Mode) (ops : Array Oper) (i : Nat) (D : List Nat) : Bool :=
  D.all fun j => match ops[j]? with | some oj => oj.after.toList.any fun e => Region.binds md e && (Nat.beq e.on i || memB e.on D) | none => false
theorem waitsB_spec {i : Nat} {D : List Nat} (h : waitsB md ops i D = true) : Waits md ops i D := by
  intro j hj
  have := List.all_eq_true.1 h j hj
  split at this
  · rename_i oj hoj
    obtain ⟨e, he, hb⟩ := List.any_eq_true.1 this
    simp only [Bool.and_eq_true, Bool.or_eq_true, Nat.beq_eq, memB_iff] at hb
    exact ⟨oj, hoj, e, by simpa using he, hb.1, hb.2⟩
  · simp at this

theorem not_ready_of_waits {i j : Nat} {C : List Nat} {listed : Array Bool} (hC : Waits md ops i C) (hi : listed.getD i true = false) (hU : Un listed C) (hj : j ∈ Region.ready md ops listed) : j ∉ C := by
  intro hjC
  obtain ⟨oj, hoj, e, he, hb, hon⟩ := hC j hjC
  obtain ⟨_, oj', hoj', hall⟩ := mem_ready.1 hj
  rw [hoj] at hoj'
  obtain rfl := Option.some.inj hoj'
  have h1 := hall e he hb
  have h0 : listed.getD e.on true = false := by
    rcases hon with h | h
    · rw [h]; exact hi
    · exact hU _ h
  rcases Nat.lt_or_ge e.on listed.size with h' | h'
  · simp [h'] at h0 h1; rw [h0] at h1; cases h1
  · simp [Array.getElem?_eq_none h'] at h1

theorem wpAnyG_first {G : Grds} {S : World → Prop} {C D : List Nat} {i : Nat} {oi : Oper} {v : Value} (hi : ops[i]? = some oi) (hsel : ∀ (j : Nat) (o : Oper) cs b, ops[j]? = some o → o.op ≠ .select cs b)
    (hQ : ∀ c a w, Q (.panic c) (a.put oi.dst v) w → Q (.panic c) a w) (hC : Waits md ops i C) (hDC : ∀ d ∈ D, d ∈ C) (hiC : i ∉ C) (hiG : ∀ g ∈ G, i ∉ g.1) :
    ∀ (fuel : Nat) (listed : Array Bool) (a : Act) (w : World),
      (∀ j oj, ops[j]? = some oj → j ≠ i → listed.getD j true = false → (∀ e ∈ oj.after, Region.binds md e = true → e.on ≠ i) → oi.apart ops oj = true) →
      i ∈ Region.ready md ops listed → Un listed C → YieldsIf P ops S oi v a → S w → Gok G listed i w →
      wpAnyG P md ops Q ((D, S) :: G) fuel (listed.setIfInBounds i true) (a.put oi.dst v) w →
      wpAnyG P md ops Q G (fuel + 1) listed a w := by
  intro fuel
  induction fuel with
  | zero =>
    intro listed a w _ hr _ hy hS hG H
    refine ⟨fun h => (by rw [h] at hr; cases hr), fun j hj => ?_⟩
    by_cases hji : j = i
    · subst hji; exact hy.wpOp hi hS ⟨hG, H⟩
    · have := ready_mono hj hji
      rw [H.1] at this
      cases this
  | succ fuel ih =>
    intro listed a w hfree hr hU hy hS hG H
    refine ⟨fun h => (by rw [h] at hr; cases hr), fun j hj => ?_⟩
    by_cases hji : j = i
    · subst hji
      exact hy.wpOp hi hS ⟨hG, wpAnyG_weaken _ _ _ _ (fun g hg => .inl (List.mem_cons_of_mem _ hg)) H⟩
    · have h1 := H.2 j (ready_mono hj hji)
      obtain ⟨hjun, oj, hoj, hall⟩ := mem_ready.1 hj
      have h0i := (mem_ready.1 hr).1
      have hnot : ∀ e ∈ oj.after, Region.binds md e = true → e.on ≠ i := fun e he hb heq => by
        have h1 := hall e he hb
        rw [heq] at h1
        rcases Nat.lt_or_ge i listed.size with h' | h'
        · simp [h'] at h0i h1; rw [h0i] at h1; cases h1
        · simp [Array.getElem?_eq_none h'] at h1
      have hjC : j ∉ C := not_ready_of_waits hC h0i hU hj
      have h2 := wpOp_putIf hoj (hfree j oj hoj hji hjun hnot) (fun cs b => hsel i oi cs b hi) (fun cs b => hsel j oj cs b hoj) hQ hy h1
      have hfree' : ∀ k ok, ops[k]? = some ok → k ≠ i → (listed.setIfInBounds j true).getD k true = false →
          (∀ e ∈ ok.after, Region.binds md e = true → e.on ≠ i) → oi.apart ops ok = true := fun k ok hk hki hun hno => by
        refine hfree k ok hk hki ?_ hno
        by_cases hjk : j = k
        · subst hjk; exact hjun
        · rw [getD_set_ne true hjk] at hun; exact hun
      refine wpOp_mono (fun a' w' h3 => ?_) h2
      obtain ⟨hy', hok, hrest⟩ := h3
      have hS' : S w' := hok (D, S) (by simp) (fun h => hjC (hDC j h)) (un_set_of (fun d hd => hU d (hDC d hd)) (fun h => hiC (hDC i h)))
      have hG' : ∀ g ∈ G, j ∉ g.1 → Un listed g.1 → g.2 w' := fun g hg hjg hu => hok g (List.mem_cons_of_mem _ hg) hjg (un_set_of hu (hiG g hg))
      refine ⟨hG', ih (listed.setIfInBounds j true) a' w' hfree' (ready_mono hr (Ne.symm hji)) (un_set_of hU hjC) hy' hS' ?_ ?_⟩
      · intro g hg _ hu
        exact hG' g hg (fun hjg => not_un_of_mem hjg hu) (un_set hu)
      · rw [Array.setIfInBounds_comm _ _ hji]
        exact hrest

/-! ## A region in text order, and in whatever order -/
/-- 0: leaves the world alone whatever it is; 1: loads; 2: all else. -/
def kindT (P : Program) (t : TypeId) : Bool := match P.underlying t with | some (.struct _) | some (.array _ _) | some (.interface _) | some .string | some (.int _) | some .bool | some (.pointer _) | some (.slice _) => true | _ => false
def kind (P : Program) (o : Oper) : Nat :=
  match o.op with
  | .move _ | .assign _ | .pick _ _ _ | .nilCheck _ | .fieldAddr _ _ _ | .field _ _ _ | .indexAddr _ _ _ | .unOp _ _ _ | .makeInterface _ _ | .makeFunc _ _ _ | .slice _ _ _ _ _ | .extract _ _ | .build _ _ => 0
  | .index t _ _ => match P.underlying t with | some .string => 0 | some (.array _ e) => (bif aggT P e then 2 else 0) | _ => 2
  | .binOp op xT _ _ _ => match P.underlying xT with
    | some (.struct _) | some (.array _ _) => 2
    | some .string => match op with | .eql | .neq => 0 | _ => 2
    | _ => 0
  | .convert _ dst _ => match P.underlying dst with | some (.int _) => 0 | _ => 2
  | .call c => match c.callee with
    | .builtin .len => match c.argTypes[0]? with
      | some t => match P.underlying t with | some (.map _ _) => 2 | _ => 0
      | none => 2
    | .builtin .cap => 0
    | .builtin .min => match c.argTypes[0]? with
      | some t => match P.underlying t with | some (.int _) => (bif Nat.beq c.args.size 2 then 0 else 2) | _ => 2
      | none => 2
    | .builtin .max => match c.argTypes[0]? with
      | some t => match P.underlying t with | some (.int _) => (bif Nat.beq c.args.size 2 then 0 else 2) | _ => 2
      | none => 2
    | _ => 2
  | .load _ _ => 1
  | _ => 2

def dop (P : Program) (E : List FuncId) (o : Oper) (ρ : Operand → Value) (w : World) (K : Value → World → Prop) : Prop :=
  match kind P o with
  | 0 => dpure P o ρ fun v => K v w
  | 1 => match o.op with | .load t a => dload P t (ρ a) w fun _ v => K v w | _ => False
  | _ => deff P E o ρ w K

def putN (N : Nat) (e : Env) (d : Option Tmp) (v : Value) (K : Env → Prop) : Prop :=
  match d with
  | none => K e
  | some d => bif Nat.blt d N then K (e.put d v) else False

/-- The guard of an operation: with it, or without. -/
def grd (N : Nat) (ops : Array Oper) (o : Oper) (e : Env) (yes no : Env → Prop) : Prop :=
  match o.guard with
  | none => yes e
  | some (j, want) => match (ops[j]?).bind (·.dst) with
    | some d => bif Nat.blt d N then (match e d with
      | .bool b => bif b then (bif want then yes (e.put d (.bool true)) else no (e.put d (.bool true))) else (bif want then no (e.put d (.bool false)) else yes (e.put d (.bool false)))
      | .tuple _ => no e
      | _ => False) else False
    | none => False

def dseq (P : Program) (E : List FuncId) (N : Nat) (ops : Array Oper) : List Oper → Env → World → (Env → World → Prop) → Prop
  | [], e, w, K => K e w
  | o :: r, e, w, K => grd N ops o e
      (fun e => dop P E o (ev e) w fun v w' => putN N e o.dst v fun e' => dseq P E N ops r e' w' K)
      (fun e => putN N e o.dst undef fun e' => dseq P E N ops r e' w K)

inductive Ro where
  | fin
  | tk (i : Nat) (C D : List Nat) (r : Ro)
  | one (i : Nat) (r : Ro)
  | two (i : Nat) (r : Ro) (j : Nat) (s : Ro)

def Ro.deep : Ro → Nat
  | .fin => 0
  | .tk _ _ _ r => r.deep + 1
  | .one _ r => r.deep + 1
  | .two _ r _ s => max r.deep s.deep + 1

abbrev Held := List (List Nat × List (Addr × Value))
def keepH : List (Addr × Value) → World → Prop → Prop
  | [], _, K => K
  | (a, v) :: r, w, K => w.cell? a = some v ∧ keepH r w K
/-- Behind operation i: what was loaded and may still come behind it, is as it was. -/
def keepG (i : Nat) : Held → World → (Held → Prop) → Prop
  | [], _, K => K []
  | (D, H) :: r, w, K => bif memB i D then keepG i r w K else keepH H w (keepG i r w fun r' => K ((D, H) :: r'))

def drg (P : Program) (E : List FuncId) (N : Nat) (ops : Array Oper) : Ro → Array Bool → Held → Env → World → (Env → World → Prop) → Prop
  | .fin, l, H, e, w, K => bif (Region.ready .any ops l).isEmpty then K e w else False
  | .tk i C D r, l, H, e, w, K =>
    match ops[i]? with
    | none => False
    | some o => bif memB i (Region.ready .any ops l) && Region.free .any ops l i && waitsB .any ops i C && D.all (fun d => memB d C) && !memB i C && C.all (fun j => !(l.getD j true)) && H.all (fun h => !memB i h.1)
      then grd N ops o e
        (fun e => match kind P o with
          | 0 => dpure P o (ev e) fun v => putN N e o.dst v fun e' => drg P E N ops r (l.setIfInBounds i true) H e' w K
          | 1 => match o.op with
            | .load t a => dload P t (ev e a) w fun hs v => putN N e o.dst v fun e' => drg P E N ops r (l.setIfInBounds i true) ((D, hs) :: H) e' w K
            | _ => False
          | _ => False)
        (fun e => putN N e o.dst undef fun e' => drg P E N ops r (l.setIfInBounds i true) H e' w K)
      else False
  | .one i r, l, H, e, w, K =>
    match ops[i]? with
    | none => False
    | some o => match Region.ready .any ops l with
      | [j] => bif Nat.beq i j then grd N ops o e
          (fun e => dop P E o (ev e) w fun v w' => putN N e o.dst v fun e' => keepG i H w' fun H' => drg P E N ops r (l.setIfInBounds i true) H' e' w' K)
          (fun e => putN N e o.dst undef fun e' => keepG i H w fun H' => drg P E N ops r (l.setIfInBounds i true) H' e' w K)
        else False
      | _ => False
  | .two i r j s, l, H, e, w, K =>
    match ops[i]?, ops[j]? with
    | some o, some p => match Region.ready .any ops l with
      | [i', j'] => bif Nat.beq i i' && Nat.beq j j' then
          (grd N ops o e
            (fun e => dop P E o (ev e) w fun v w' => putN N e o.dst v fun e' => keepG i H w' fun H' => drg P E N ops r (l.setIfInBounds i true) H' e' w' K)
            (fun e => putN N e o.dst undef fun e' => keepG i H w fun H' => drg P E N ops r (l.setIfInBounds i true) H' e' w K)) ∧
          (grd N ops p e
            (fun e => dop P E p (ev e) w fun v w' => putN N e p.dst v fun e' => keepG j H w' fun H' => drg P E N ops s (l.setIfInBounds j true) H' e' w' K)
            (fun e => putN N e p.dst undef fun e' => keepG j H w fun H' => drg P E N ops s (l.setIfInBounds j true) H' e' w K))
        else False
      | _ => False
    | _, _ => False
end
section
variable {P : Program} {Q : Exit → Act → World → Prop} {E : List FuncId} {N : Nat} {ops : Array Oper}
theorem dop_sound {next : Act → World → Prop} {a : Act} {w : World} {o : Oper} {K : Value → World → Prop} (hE : ∀ g ∈ E, enters P g) (h : dop P E o a.eval w K)
    (hk : ∀ v w', K v w' → next (a.put o.dst v) w') : o.wp P a w next Q := by
  unfold dop at h
  split at h
  · obtain ⟨v, hv, h⟩ := dpure_sound h
    exact wp_of_gives hv (hk _ _ h)
  · split at h
    · rename_i t x ho
      obtain ⟨v, H, h, hH, hr⟩ := dload_sound h
      refine wp_of_run (v := v) (w' := w) ?_ (hk _ _ h)
      obtain ⟨dst, op, type, pos, after, guard⟩ := o
      simp only at ho
      subst ho
      exact run_v (hr w hH)
    · exact h.elim
  · exact deff_sound hE h hk

theorem put_size (a : Act) (d : Option Tmp) (v : Value) : (a.put d v).tmps.size = a.tmps.size := by
  cases d <;> simp [Act.put]
theorem put_defers (a : Act) (d : Option Tmp) (v : Value) : (a.put d v).defers = a.defers := by
  cases d <;> rfl
theorem ofAct_put_other (a : Act) (d : Option Tmp) (v : Value) (t : Nat) (h : ∀ x, d = some x → t ≠ x) : ofAct (a.put d v) t = ofAct a t := by
  cases d with
  | none => rfl
  | some x => simp [ofAct, Act.put, Array.getElem?_setIfInBounds_ne (Ne.symm (h x rfl))]
theorem putN_sound {a : Act} {d : Option Tmp} {v : Value} {K : Env → Prop} (h : putN N (ofAct a) d v K) (hs : a.tmps.size = N) : K (ofAct (a.put d v)) := by
  unfold putN at h
  split at h
  · exact h
  · rename_i d
    cases hb : Nat.blt d N <;> simp only [hb, cond_true, cond_false] at h
    rw [ofAct_put _ _ _ (by rw [hs]; simpa using hb)]
    exact h
theorem env_put_same {e : Env} {d : Nat} {v : Value} (h : e d = v) : e.put d v = e := by
  funext t
  by_cases ht : t = d
  · subst ht; rw [Env.put_self, h]
  · rw [Env.put_ne _ _ _ _ ht]
theorem grd_sound {a : Act} {o : Oper} {yes no : Env → Prop} (h : grd N ops o (ofAct a) yes no) (hs : a.tmps.size = N) :
    (Region.wanted o (yielded ops a.tmps) = true ∧ yes (ofAct a)) ∨ (Region.wanted o (yielded ops a.tmps) = false ∧ no (ofAct a)) := by
  unfold grd at h
  unfold Region.wanted
  split at h
  · rename_i hg; rw [hg]; exact .inl ⟨rfl, h⟩
  · rename_i j want hg
    rw [hg]
    simp only []
    split at h
    · rename_i d hd
      cases hb : Nat.blt d N <;> simp only [hb, cond_true, cond_false] at h
      have hlt : d < a.tmps.size := by rw [hs]; simpa using hb
      split at h
      · rename_i b he
        have hy : yielded ops a.tmps j = some b := by
          unfold yielded
          rw [hd]
          simp only [Option.bind_some]
          have : ofAct a d = a.tmps[d] := by simp [ofAct, hlt]
          rw [Array.getElem?_eq_getElem hlt, ← this, he]
        rw [hy]
        cases b <;> cases want <;> simp only [cond_true, cond_false, env_put_same he] at h <;> first | exact .inl ⟨rfl, h⟩ | exact .inr ⟨rfl, h⟩
      · rename_i vs he
        have hy : yielded ops a.tmps j = none := by
          unfold yielded
          rw [hd]
          simp only [Option.bind_some]
          have : ofAct a d = a.tmps[d] := by simp [ofAct, hlt]
          rw [Array.getElem?_eq_getElem hlt, ← this, he]
        rw [hy]
        exact .inr ⟨rfl, h⟩
      · exact h.elim
    · exact h.elim

/-- What is asked of a region's end. -/
def RQ (Ds : List Deferred) (N : Nat) (A : List Nat) (e₀ : Env) (K : Env → World → Prop) : Exit → Act → World → Prop
  | .normal, a, w => K (ofAct a) w ∧ a.tmps.size = N ∧ a.defers = Ds ∧ ∀ t, t ∉ A → ofAct a t = e₀ t
  | _, _, _ => False

theorem dseq_sound {Ds : List Deferred} (hE : ∀ g ∈ E, enters P g) {A : List Nat} {e₀ : Env} {K : Env → World → Prop} (l : List Oper) : ∀ (a : Act) (w : World), dseq P E N ops l (ofAct a) w K → a.tmps.size = N → a.defers = Ds →
    (∀ o ∈ l, ∀ d, o.dst = some d → d ∈ A) → (∀ t, t ∉ A → ofAct a t = e₀ t) → wpList P ops (RQ Ds N A e₀ K) l a w := by
  induction l with
  | nil => intro a w h hs hd _ hA; exact ⟨h, hs, hd, hA⟩
  | cons o r ih =>
    intro a w h hs hd hl hA
    have hA' : ∀ v, ∀ t, t ∉ A → ofAct (a.put o.dst v) t = e₀ t := fun v t ht => by
      rw [ofAct_put_other _ _ _ _ (fun x hx (e : t = x) => ht (by rw [e]; exact hl o (by simp) x hx))]; exact hA t ht
    unfold dseq at h
    unfold wpList
    rcases grd_sound h hs with ⟨hw, h⟩ | ⟨hw, h⟩
    · rw [if_pos hw]
      left
      rw [ev_ofAct] at h
      refine dop_sound hE h fun v w' hv => ?_
      exact ih _ _ (putN_sound hv hs) (by rw [put_size, hs]) (by rw [put_defers, hd]) (fun o ho => hl o (by simp [ho])) (hA' v)
    · rw [if_neg (by simp [hw])]
      exact ih _ _ (putN_sound h hs) (by rw [put_size, hs]) (by rw [put_defers, hd]) (fun o ho => hl o (by simp [ho])) (hA' _)

theorem keepH_out {H : List (Addr × Value)} {w : World} {K : Prop} (h : keepH H w K) : Holds H w ∧ K := by
  induction H with
  | nil => exact ⟨(fun p hp => by cases hp), h⟩
  | cons p r ih =>
    obtain ⟨a, v⟩ := p
    obtain ⟨h1, h2⟩ := h
    obtain ⟨h2, h3⟩ := ih h2
    refine ⟨fun p hp => ?_, h3⟩
    rcases List.mem_cons.1 hp with rfl | hp
    · exact h1
    · exact h2 p hp
def guards (H : Held) : Grds := H.map fun h => (h.1, Holds h.2)
theorem keepG_out {i : Nat} {H : Held} {w : World} : ∀ {K : Held → Prop}, keepG i H w K → ∃ H', K H' ∧ (∀ h ∈ H', h ∈ H ∧ i ∉ h.1) ∧ (∀ h ∈ H, h ∈ H' ∨ i ∈ h.1) ∧ ∀ h ∈ H', Holds h.2 w := by
  induction H with
  | nil => intro K h; exact ⟨[], h, (fun h hh => by cases hh), (fun h hh => by cases hh), (fun h hh => by cases hh)⟩
  | cons p r ih =>
    obtain ⟨D, hs⟩ := p
    intro K h
    unfold keepG at h
    cases hb : memB i D <;> simp only [hb, cond_true, cond_false] at h
    · obtain ⟨hh, h⟩ := keepH_out h
      obtain ⟨H', hk, h1, h2, h3⟩ := ih h
      have hni : i ∉ D := fun e => by rw [memB_iff.2 e] at hb; cases hb
      refine ⟨_, hk, ?_, ?_, ?_⟩
      · intro x hx
        rcases List.mem_cons.1 hx with rfl | hx
        · exact ⟨by simp, hni⟩
        · exact ⟨by simp [(h1 x hx).1], (h1 x hx).2⟩
      · intro x hx
        rcases List.mem_cons.1 hx with rfl | hx
        · exact .inl (by simp)
        · exact (h2 x hx).imp (by intro h; simp [h]) id
      · intro x hx
        rcases List.mem_cons.1 hx with rfl | hx
        · exact hh
        · exact h3 x hx
    · obtain ⟨H', hk, h1, h2, h3⟩ := ih h
      have hi := memB_iff.1 hb
      refine ⟨_, hk, fun x hx => ⟨by simp [(h1 x hx).1], (h1 x hx).2⟩, ?_, h3⟩
      intro x hx
      rcases List.mem_cons.1 hx with rfl | hx
      · exact .inr hi
      · exact h2 x hx

theorem wpAnyG_done {md : Region.Mode} {G : Grds} {listed : Array Bool} {a : Act} {w : World} {Q : Exit → Act → World → Prop} (hr : Region.ready md ops listed = []) (h : Q .normal a w) :
    ∀ fuel, wpAnyG P md ops Q G fuel listed a w
  | 0 => ⟨hr, h⟩
  | _ + 1 => ⟨fun _ => h, by rw [hr]; simp⟩

def asgO (ops : Array Oper) : List Nat := ops.toList.filterMap (·.dst)
theorem asgO_mem {ops : Array Oper} {i : Nat} {o : Oper} (h : ops[i]? = some o) (d : Nat) (hd : o.dst = some d) : d ∈ asgO ops :=
  List.mem_filterMap.2 ⟨o, by simpa using Array.mem_of_getElem? h, hd⟩

theorem drg_sound {Ds : List Deferred} (hE : ∀ g ∈ E, enters P g) (hsel : Region.noSelect ops = true) {e₀ : Env} {K : Env → World → Prop} (r : Ro) : ∀ (l : Array Bool) (H : Held) (a : Act) (w : World) (fuel : Nat), r.deep ≤ fuel →
    drg P E N ops r l H (ofAct a) w K → a.tmps.size = N → a.defers = Ds → (∀ t, t ∉ asgO ops → ofAct a t = e₀ t) → (∀ h ∈ H, Holds h.2 w) →
    wpAnyG P .any ops (RQ Ds N (asgO ops) e₀ K) (guards H) fuel l a w := by
  have hput : ∀ {i : Nat} {o : Oper} (ho : ops[i]? = some o) (a : Act) (v : Value), (∀ t, t ∉ asgO ops → ofAct a t = e₀ t) → ∀ t, t ∉ asgO ops → ofAct (a.put o.dst v) t = e₀ t := by
    intro i o ho a v hA t ht
    rw [ofAct_put_other _ _ _ _ (fun x hx (e : t = x) => ht (by rw [e]; exact asgO_mem ho x hx))]
    exact hA t ht
  -- an operation that is carried out, with what must be kept
  have hrun : ∀ {i : Nat} {o : Oper} (r : Ro) (ho : ops[i]? = some o) (l : Array Bool) (H : Held) (a : Act) (w : World) (fuel : Nat), r.deep ≤ fuel →
      (∀ (l : Array Bool) (H : Held) (a : Act) (w : World) (fuel : Nat), r.deep ≤ fuel →
        drg P E N ops r l H (ofAct a) w K → a.tmps.size = N → a.defers = Ds → (∀ t, t ∉ asgO ops → ofAct a t = e₀ t) → (∀ h ∈ H, Holds h.2 w) →
        wpAnyG P .any ops (RQ Ds N (asgO ops) e₀ K) (guards H) fuel l a w) →
      grd N ops o (ofAct a)
        (fun e => dop P E o (ev e) w fun v w' => putN N e o.dst v fun e' => keepG i H w' fun H' => drg P E N ops r (l.setIfInBounds i true) H' e' w' K)
        (fun e => putN N e o.dst undef fun e' => keepG i H w fun H' => drg P E N ops r (l.setIfInBounds i true) H' e' w K) →
      a.tmps.size = N → a.defers = Ds → (∀ t, t ∉ asgO ops → ofAct a t = e₀ t) →
      wpOp P ops (RQ Ds N (asgO ops) e₀ K) i (fun a' w' => Gok (guards H) l i w' ∧ wpAnyG P .any ops (RQ Ds N (asgO ops) e₀ K) (guards H) fuel (l.setIfInBounds i true) a' w') a w := by
    intro i o r ho l H a w fuel hf ih h hs hd hA
    have fin : ∀ v w', putN N (ofAct a) o.dst v (fun e' => keepG i H w' fun H' => drg P E N ops r (l.setIfInBounds i true) H' e' w' K) →
        Gok (guards H) l i w' ∧ wpAnyG P .any ops (RQ Ds N (asgO ops) e₀ K) (guards H) fuel (l.setIfInBounds i true) (a.put o.dst v) w' := by
      intro v w' hp
      obtain ⟨H', hr, h1, h2, h3⟩ := keepG_out (putN_sound hp hs)
      refine ⟨?_, ?_⟩
      · intro g hg hig _
        obtain ⟨x, hx, rfl⟩ := List.mem_map.1 hg
        exact (h2 x hx).elim (fun hx' => h3 x hx') (fun hi => (hig hi).elim)
      · refine wpAnyG_weaken (G' := guards H') fuel _ _ _ ?_ (ih _ _ _ _ fuel hf hr (by rw [put_size, hs]) (by rw [put_defers, hd]) (hput ho a v hA) h3)
        intro g hg
        obtain ⟨x, hx, rfl⟩ := List.mem_map.1 hg
        exact (h2 x hx).imp (fun hx' => List.mem_map.2 ⟨x, hx', rfl⟩) (fun hi => .inl (not_un_of_mem hi))
    unfold wpOp
    rw [ho]
    simp only []
    rcases grd_sound h hs with ⟨hw, h⟩ | ⟨hw, h⟩
    · rw [if_pos hw]
      left
      rw [ev_ofAct] at h
      exact dop_sound hE h fun v w' hv => fin v w' hv
    · rw [if_neg (by simp [hw])]
      exact fin _ _ h
  induction r with
  | fin =>
    intro l H a w fuel _ h hs hd hA _
    simp only [drg] at h
    cases hb : (Region.ready .any ops l).isEmpty <;> simp only [hb, cond_true, cond_false] at h
    exact wpAnyG_done (by simpa using hb) ⟨h, hs, hd, hA⟩ fuel
  | tk i C D r ih =>
    intro l H a w fuel hf h hs hd hA hH
    simp only [Ro.deep] at hf
    obtain ⟨fuel, rfl⟩ : ∃ m, fuel = m + 1 := ⟨fuel - 1, by omega⟩
    simp only [drg] at h
    split at h
    · exact h.elim
    · rename_i o ho
      cases hb : (memB i (Region.ready .any ops l) && Region.free .any ops l i && waitsB .any ops i C && D.all (fun d => memB d C) && !memB i C && C.all (fun j => !(l.getD j true)) && H.all (fun h => !memB i h.1)) <;> simp only [hb, cond_true, cond_false] at h
      simp only [Bool.and_eq_true, Bool.not_eq_true', List.all_eq_true] at hb
      obtain ⟨⟨⟨⟨⟨⟨hb1, hb2⟩, hb3⟩, hb4⟩, hb5⟩, hb6⟩, hb7⟩ := hb
      have hiC : i ∉ C := fun e => by rw [memB_iff.2 e] at hb5; cases hb5
      have hiG : ∀ g ∈ guards H, i ∉ g.1 := by
        intro g hg hi
        obtain ⟨x, hx, rfl⟩ := List.mem_map.1 hg
        have := hb7 x hx
        rw [memB_iff.2 hi] at this; cases this
      have first : ∀ (S : World → Prop) (D : List Nat) (v : Value), (∀ d ∈ D, d ∈ C) → YieldsIf P ops S o v a → S w →
          wpAnyG P .any ops (RQ Ds N (asgO ops) e₀ K) ((D, S) :: guards H) fuel (l.setIfInBounds i true) (a.put o.dst v) w →
          wpAnyG P .any ops (RQ Ds N (asgO ops) e₀ K) (guards H) (fuel + 1) l a w := by
        intro S D v hDC hy hS hr
        refine wpAnyG_first ho (Region.noSelect_spec hsel) (fun _ _ _ h => h.elim) (waitsB_spec hb3) hDC hiC hiG fuel l a w (Region.free_spec ho hb2) (memB_iff.1 hb1) hb6 hy hS ?_ hr
        intro g hg _ _
        obtain ⟨x, hx, rfl⟩ := List.mem_map.1 hg
        exact hH x hx
      have hDC : ∀ d ∈ D, d ∈ C := fun d hd => memB_iff.1 (hb4 d hd)
      rcases grd_sound h hs with ⟨hw, h⟩ | ⟨hw, h⟩
      · split at h
        · rw [ev_ofAct] at h
          obtain ⟨v, hv, h⟩ := dpure_sound h
          refine first (fun _ => True) [] v (fun d hd => by cases hd) (.inl ⟨hw, fun w _ => hv w⟩) trivial ?_
          refine wpAnyG_weaken (G' := guards H) _ _ _ _ ?_ (ih _ _ _ _ fuel (by omega) (putN_sound h hs) (by rw [put_size, hs]) (by rw [put_defers, hd]) (hput ho a v hA) hH)
          intro g hg
          rcases List.mem_cons.1 hg with rfl | hg
          · exact .inr (.inr fun _ => trivial)
          · exact .inl hg
        · split at h
          · rename_i t x hop
            rw [ev_ofAct] at h
            obtain ⟨v, hs', h, hHs, hr⟩ := dload_sound h
            refine first (Holds hs') D v hDC (.inl ⟨hw, fun w' hw' => ?_⟩) hHs ?_
            · obtain ⟨dst, op, type, pos, after, guard⟩ := o
              simp only at hop
              subst hop
              exact run_v (hr w' hw')
            · exact ih _ ((D, hs') :: H) _ _ fuel (by omega) (putN_sound h hs) (by rw [put_size, hs]) (by rw [put_defers, hd]) (hput ho a v hA) (fun x hx => by
                rcases List.mem_cons.1 hx with rfl | hx
                · exact hHs
                · exact hH x hx)
          · exact h.elim
        · exact h.elim
      · refine first (fun _ => True) [] undef (fun d hd => by cases hd) (.inr ⟨hw, rfl⟩) trivial ?_
        refine wpAnyG_weaken (G' := guards H) _ _ _ _ ?_ (ih _ _ _ _ fuel (by omega) (putN_sound h hs) (by rw [put_size, hs]) (by rw [put_defers, hd]) (hput ho a _ hA) hH)
        intro g hg
        rcases List.mem_cons.1 hg with rfl | hg
        · exact .inr (.inr fun _ => trivial)
        · exact .inl hg
  | one i r ih =>
    intro l H a w fuel hf h hs hd hA hH
    simp only [Ro.deep] at hf
    obtain ⟨fuel, rfl⟩ : ∃ m, fuel = m + 1 := ⟨fuel - 1, by omega⟩
    simp only [drg] at h
    split at h
    · exact h.elim
    · rename_i o ho
      split at h
      · rename_i j hr
        cases hb : Nat.beq i j <;> simp only [hb, cond_true, cond_false] at h
        rw [Nat.beq_eq] at hb
        subst hb
        refine ⟨fun h0 => (by rw [hr] at h0; cases h0), fun j hj => ?_⟩
        rw [hr, List.mem_singleton] at hj
        subst hj
        exact hrun r ho l H a w fuel (by omega) ih h hs hd hA
      · exact h.elim
  | two i r j s ih1 ih2 =>
    intro l H a w fuel hf h hs hd hA hH
    simp only [Ro.deep] at hf
    obtain ⟨fuel, rfl⟩ : ∃ m, fuel = m + 1 := ⟨fuel - 1, by omega⟩
    simp only [drg] at h
    split at h
    · rename_i o p ho hp
      split at h
      · rename_i i' j' hr
        cases hb : (Nat.beq i i' && Nat.beq j j') <;> simp only [hb, cond_true, cond_false] at h
        simp only [Bool.and_eq_true, Nat.beq_eq] at hb
        obtain ⟨rfl, rfl⟩ := hb
        refine ⟨fun h0 => (by rw [hr] at h0; cases h0), fun k hk => ?_⟩
        rw [hr, List.mem_cons, List.mem_singleton] at hk
        rcases hk with rfl | rfl
        · exact hrun r ho l H a w fuel (by omega) ih1 h.1 hs hd hA
        · exact hrun s hp l H a w fuel (by omega) ih2 h.2 hs hd hA
      · exact h.elim
    · exact h.elim
end

end Go.Proofs.YtledchlbmilneaaDoor
