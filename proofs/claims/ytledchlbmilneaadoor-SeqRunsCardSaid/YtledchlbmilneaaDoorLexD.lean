/-
A reading of a function's code as one formula: whole functions.
Conditions: none; every theorem here is over any program.
-/
import Derived.Test.YtledchlbmilneaaDoorLexG
import Derived.LoopN
namespace Go.Proofs.YtledchlbmilneaaDoor
open Go
set_option linter.unusedVariables false
set_option linter.unusedSimpArgs false

inductive Ex where
  | normal | exit (id : Nat) | ret
abbrev Post := Ex → Env → World → Prop
def thenP (J : Env → World → Prop) (Q : Post) : Post
  | .normal, e, w => J e w
  | .exit id, e, w => Q (.exit id) e w
  | .ret, e, w => Q .ret e w
def blockP (id : Nat) (Q : Post) : Post
  | .exit id', e, w => bif Nat.beq id' id then Q .normal e w else Q (.exit id') e w
  | .normal, e, w => Q .normal e w
  | .ret, e, w => Q .ret e w

/-- How the code is to be read: where ways meet, what a loop's head knows. -/
inductive An where
  | leaf | reg (r : Ro) | seq (a b : An) | join (ds : List Nat) (ts : List Ty) (a b : An) | cond (a b : An) | block (a : An) | loop (ds : List Nat) (ts : List Ty) (a : An) | unr (k : Nat) (a : An)

def asg : Code → List Nat
  | .region _ ops _ => asgO ops
  | .seq a b => asg a ++ asg b
  | .cond _ a b => asg a ++ asg b
  | .block _ c => asg c
  | .loop c => asg c
  | _ => []

/-- So many rounds at most. -/
def unrW (body : (Env → World → Prop) → Env → World → Prop) : Nat → Env → World → Prop
  | 0, _, _ => False
  | k + 1, e, w => body (unrW body k) e w

def den (P : Program) (E : List FuncId) (N : Nat) : An → Code → Post → Env → World → Prop
  | .leaf, c, Q, e, w => match c with
    | .skip => Q .normal e w
    | .label _ => Q .normal e w
    | .exit id => Q (.exit id) e w
    | .ret => Q .ret e w
    | .region _ ops false => dseq P E N ops ops.toList e w (Q .normal)
    | _ => False
  | .reg r, c, Q, e, w => match c with
    | .region _ ops true => bif Region.noSelect ops && Nat.ble r.deep ops.size then drg P E N ops r (Array.replicate ops.size false) [] e w.drew (Q .normal) else False
    | _ => False
  | .seq a b, c, Q, e, w => match c with
    | .seq x y => den P E N a x (thenP (fun e w => den P E N b y Q e w) Q) e w
    | _ => False
  | .join ds ts a b, c, Q, e, w => match c with
    | .seq x y => ∃ J : List Value → World → Prop,
        den P E N a x (thenP (fun e' w' => bif fitTs ts (ds.map e') then J (ds.map e') w' else False) Q) e w ∧
        ∀ f : Env, allTs ts fun vs => ∀ w', J vs w' → den P E N b y Q (Env.puts (Env.mix (asg x) e f) ds vs) w'
    | _ => False
  | .cond a b, c, Q, e, w => match c with
    | .cond t x y => match ev e t with
      | .bool t => bif t then den P E N a x Q e w else den P E N b y Q e w
      | _ => False
    | _ => False
  | .block a, c, Q, e, w => match c with
    | .block id x => den P E N a x (blockP id Q) e w
    | _ => False
  | .loop ds ts a, c, Q, e, w => match c with
    | .loop x => ∃ (I : List Value → World → Prop) (μ : List Value → World → Nat), (bif fitTs ts (ds.map e) then I (ds.map e) w else False) ∧
        ∀ f : Env, allTs ts fun vs => ∀ w', I vs w' →
          den P E N a x (thenP (fun e' w'' => bif fitTs ts (ds.map e') then I (ds.map e') w'' ∧ μ (ds.map e') w'' < μ vs w' else False) Q) (Env.puts (Env.mix (asg x) e f) ds vs) w'
    | _ => False
  | .unr k a, c, Q, e, w => match c with
    | .loop x => unrW (fun J e w => den P E N a x (thenP J Q) e w) k e w
    | _ => False

section
variable {P : Program} {E : List FuncId} {N : Nat}
def Frm (Ds : List Deferred) (N : Nat) (A : List Nat) (e₀ : Env) (a : Act) : Prop := a.tmps.size = N ∧ a.defers = Ds ∧ ∀ t, t ∉ A → ofAct a t = e₀ t
def PQ (Ds : List Deferred) (N : Nat) (A : List Nat) (e₀ : Env) (Q : Post) : Exit → Act → World → Prop
  | .normal, a, w => Q .normal (ofAct a) w ∧ Frm Ds N A e₀ a
  | .exit id, a, w => Q (.exit id) (ofAct a) w ∧ Frm Ds N A e₀ a
  | .ret, a, w => Q .ret (ofAct a) w ∧ Frm Ds N A e₀ a
  | _, _, _ => False
theorem Frm.mono {Ds : List Deferred} {A B : List Nat} {e₀ : Env} {a : Act} (h : Frm Ds N A e₀ a) (hAB : ∀ t, t ∈ A → t ∈ B) : Frm Ds N B e₀ a := ⟨h.1, h.2.1, fun t ht => h.2.2 t (fun hA => ht (hAB t hA))⟩
theorem Frm.trans {Ds : List Deferred} {A B : List Nat} {e₀ : Env} {a b : Act} (h : Frm Ds N A e₀ a) (k : Frm Ds N B (ofAct a) b) : Frm Ds N (A ++ B) e₀ b :=
  ⟨k.1, k.2.1, fun t ht => by
    rw [List.mem_append, not_or] at ht
    rw [k.2.2 t ht.2, h.2.2 t ht.1]⟩
theorem PQ.mono {Ds : List Deferred} {A B : List Nat} {e₀ : Env} {Q Q' : Post} {x : Exit} {a : Act} {w : World} (h : PQ Ds N A e₀ Q x a w) (hAB : ∀ t, t ∈ A → t ∈ B) (hQ : ∀ ex e w, Q ex e w → Q' ex e w) : PQ Ds N B e₀ Q' x a w := by
  cases x <;> first | exact ⟨hQ _ _ _ h.1, h.2.mono hAB⟩ | exact h.elim
theorem PQ.trans {Ds : List Deferred} {A B : List Nat} {e₀ : Env} {Q : Post} {x : Exit} {a b : Act} {w : World} (h : Frm Ds N A e₀ a) (k : PQ Ds N B (ofAct a) Q x b w) : PQ Ds N (A ++ B) e₀ Q x b w := by
  cases x <;> first | exact ⟨k.1, h.trans k.2⟩ | exact k.elim
theorem mix_self {A : List Nat} {e e' : Env} (h : ∀ t, t ∉ A → e' t = e t) : Env.mix A e e' = e' := by
  funext t
  unfold Env.mix
  cases hb : A.any (fun a => Nat.beq t a) with
  | true => rfl
  | false =>
    refine (h t fun hm => ?_).symm
    rw [List.any_eq_false] at hb
    exact hb t hm (by simp)
theorem puts_self (e : Env) (ds : List Nat) : Env.puts e ds (ds.map e) = e := by
  induction ds with
  | nil => rfl
  | cons d ds ih =>
    show (Env.puts e ds (ds.map e)).put d (e d) = e
    rw [ih, env_put_same rfl]

theorem wp_then_mono {c : Code} {Q : Exit → Act → World → Prop} {R : Exit → Act → World → Prop} {a : Act} {w : World} (h : c.wp P R a w) (hq : ∀ x a w, R x a w → Q x a w) : c.wp P Q a w := wp_mono h hq

theorem den_sound {Ds : List Deferred} (hE : ∀ g ∈ E, enters P g) (hm : P.follows .mixedOrders = true) (an : An) : ∀ (c : Code) (Q : Post) (a : Act) (w : World), den P E N an c Q (ofAct a) w → a.tmps.size = N → a.defers = Ds →
    c.wp P (PQ Ds N (asg c) (ofAct a) Q) a w := by
  induction an with
  | leaf =>
    intro c Q a w h hs hd
    simp only [den] at h
    split at h
    · exact wp_skip ⟨h, hs, hd, fun _ _ => rfl⟩
    · exact wp_label ⟨h, hs, hd, fun _ _ => rfl⟩
    · exact wp_exit ⟨h, hs, hd, fun _ _ => rfl⟩
    · exact wp_ret ⟨h, hs, hd, fun _ _ => rfl⟩
    · rename_i id ops
      have := dseq_sound hE (ops := ops) (A := asgO ops) (e₀ := ofAct a) ops.toList a w h hs hd (fun o ho d hd => List.mem_filterMap.2 ⟨o, ho, hd⟩) (fun _ _ => rfl)
      refine wp_mono (wp_region_list this) ?_
      intro x a' w' hx
      cases x <;> first | exact hx | exact hx.elim
    · exact h.elim
  | reg r =>
    intro c Q a w h hs hd
    simp only [den] at h
    split at h
    · rename_i id ops
      cases hb : (Region.noSelect ops && Nat.ble r.deep ops.size) <;> simp only [hb, cond_true, cond_false] at h
      simp only [Bool.and_eq_true, Nat.ble_eq] at hb
      have := drg_sound hE hb.1 (e₀ := ofAct a) r _ [] a _ ops.size hb.2 h hs hd (fun _ _ => rfl) (fun h hh => by cases hh)
      have := wpAny_of_G _ _ _ _ _ this
      refine wp_mono (wp_region_any hm this) ?_
      intro x a' w' hx
      cases x <;> first | exact hx | exact hx.elim
    · exact h.elim
  | seq x y ihx ihy =>
    intro c Q a w h hs hd
    simp only [den] at h
    split at h
    · rename_i cx cy
      refine wp_seq (wp_mono (ihx _ _ _ _ h hs hd) ?_)
      intro ex a' w' hx
      cases ex <;> simp only [PQ] at hx <;> first | exact hx.elim | skip
      · exact wp_mono (ihy _ _ _ _ hx.1 hx.2.1 hx.2.2.1) fun _ _ _ k => PQ.trans hx.2 k
      · exact ⟨hx.1, hx.2.mono fun t ht => List.mem_append_left _ ht⟩
      · exact ⟨hx.1, hx.2.mono fun t ht => List.mem_append_left _ ht⟩
    · exact h.elim
  | join ds ts x y ihx ihy =>
    intro c Q a w h hs hd
    simp only [den] at h
    split at h
    · rename_i cx cy
      obtain ⟨J, h, hj⟩ := h
      refine wp_seq (wp_mono (ihx _ _ _ _ h hs hd) ?_)
      intro ex a' w' hx
      cases ex <;> simp only [PQ] at hx <;> first | exact hx.elim | skip
      · obtain ⟨hx1, hx2⟩ := hx
        simp only [thenP] at hx1
        cases hb : fitTs ts (ds.map (ofAct a')) <;> simp only [hb, cond_true, cond_false] at hx1
        have hy := allTs_fit (hj (ofAct a')) hb w' hx1
        rw [mix_self hx2.2.2, puts_self] at hy
        exact wp_mono (ihy _ _ _ _ hy hx2.1 hx2.2.1) fun _ _ _ k => PQ.trans hx2 k
      · exact ⟨hx.1, hx.2.mono fun t ht => List.mem_append_left _ ht⟩
      · exact ⟨hx.1, hx.2.mono fun t ht => List.mem_append_left _ ht⟩
    · exact h.elim
  | cond x y ihx ihy =>
    intro c Q a w h hs hd
    simp only [den] at h
    split at h
    · rename_i t cx cy
      split at h
      · rename_i b hb
        rw [ev_ofAct] at hb
        refine wp_cond hb ?_
        cases b
        · exact wp_mono (ihy _ _ _ _ h hs hd) fun _ _ _ k => k.mono (fun t ht => List.mem_append_right _ ht) (fun _ _ _ h => h)
        · exact wp_mono (ihx _ _ _ _ h hs hd) fun _ _ _ k => k.mono (fun t ht => List.mem_append_left _ ht) (fun _ _ _ h => h)
      · exact h.elim
    · exact h.elim
  | block x ih =>
    intro c Q a w h hs hd
    simp only [den] at h
    split at h
    · rename_i id cx
      refine wp_block (wp_mono (ih _ _ _ _ h hs hd) ?_)
      intro ex a' w' hx
      cases ex <;> simp only [PQ] at hx <;> first | exact hx.elim | skip
      · exact hx
      · rename_i id'
        obtain ⟨hx1, hx2⟩ := hx
        simp only [blockP] at hx1
        simp only [Exit.inBlock]
        by_cases hid : id' = id
        · rw [if_pos hid]
          have : Nat.beq id' id = true := by simpa using hid
          rw [this] at hx1
          exact ⟨hx1, hx2⟩
        · rw [if_neg hid]
          have : Nat.beq id' id = false := by
            cases hb : Nat.beq id' id with
            | false => rfl
            | true => exact absurd (Nat.eq_of_beq_eq_true hb) hid
          rw [this] at hx1
          exact ⟨hx1, hx2⟩
      · exact hx
    · exact h.elim
  | loop ds ts x ih =>
    intro c Q a w h hs hd
    simp only [den] at h
    split at h
    · rename_i cx
      obtain ⟨I, μ, h0, hl⟩ := h
      refine wp_loop (fun a' w' => Frm Ds N (asg cx) (ofAct a) a' ∧ fitTs ts (ds.map (ofAct a')) = true ∧ I (ds.map (ofAct a')) w') (fun a' w' => μ (ds.map (ofAct a')) w') ?_ ?_
      · cases hb : fitTs ts (ds.map (ofAct a)) <;> simp only [hb, cond_true, cond_false] at h0
        exact ⟨⟨hs, hd, fun _ _ => rfl⟩, rfl, h0⟩
      · intro a1 w1 ⟨hf, hfit, hI⟩
        have hr := allTs_fit (hl (ofAct a1)) hfit w1 hI
        rw [mix_self hf.2.2, puts_self] at hr
        refine wp_mono (ih _ _ _ _ hr hf.1 hf.2.1) ?_
        intro ex a2 w2 hx
        have hfr : Frm Ds N (asg cx) (ofAct a1) a2 → Frm Ds N (asg cx) (ofAct a) a2 := fun k => (hf.trans k).mono (fun t ht => by simpa using ht)
        cases ex <;> simp only [PQ] at hx <;> first | exact hx.elim | skip
        · obtain ⟨hx1, hx2⟩ := hx
          simp only [thenP] at hx1
          cases hb : fitTs ts (ds.map (ofAct a2)) <;> simp only [hb, cond_true, cond_false] at hx1
          exact ⟨⟨hfr hx2, hb, hx1.1⟩, hx1.2⟩
        · exact ⟨hx.1, hfr hx.2⟩
        · exact ⟨hx.1, hfr hx.2⟩
    · exact h.elim
  | unr k x ih =>
    intro c Q a w h hs hd
    simp only [den] at h
    split at h
    · rename_i cx
      refine wp_loop_rounds k ?_
      have key : ∀ (k : Nat) (a1 : Act) (w1 : World), unrW (fun J e w => den P E N x cx (thenP J Q) e w) k (ofAct a1) w1 → Frm Ds N (asg cx) (ofAct a) a1 →
          Code.rounds P cx (PQ Ds N (asg cx) (ofAct a) Q) k a1 w1 := by
        intro k
        induction k with
        | zero => intro a1 w1 h _; exact h.elim
        | succ k ihk =>
          intro a1 w1 h hf
          rw [rounds_succ]
          refine wp_mono (ih _ _ _ _ h hf.1 hf.2.1) ?_
          intro ex a2 w2 hx
          have hfr : Frm Ds N (asg cx) (ofAct a1) a2 → Frm Ds N (asg cx) (ofAct a) a2 := fun k => (hf.trans k).mono (fun t ht => by simpa using ht)
          cases ex <;> simp only [PQ] at hx <;> first | exact hx.elim | skip
          · exact ihk _ _ hx.1 (hfr hx.2)
          · exact ⟨hx.1, hfr hx.2⟩
          · exact ⟨hx.1, hfr hx.2⟩
      exact key k a w h ⟨hs, hd, fun _ _ => rfl⟩
    · exact h.elim

/-! ## A function -/

def resT : List ResultVar → Option (List Nat)
  | [] => some []
  | .tmp t :: r => match resT r with | some l => some (t :: l) | none => none
  | _ => none
def resV (e : Env) : List Nat → Value
  | [t] => e t
  | ts => .tuple (ts.map e).toArray
def envOf (args : List Value) : Env := fun t => match args[t]? with | some v => v | none => undef

/-- What the function's formula is. -/
def denF (P : Program) (E : List FuncId) (fn : Func) (an : An) (args : List Value) (w : World) (R : Value → World → Prop) : Prop :=
  match fn.body with
  | none => False
  | some c => match resT fn.results.toList with
    | some ts => bif Nat.ble args.length fn.ntmps then
      den P E fn.ntmps an c (fun x e w' => match x with | .exit _ => False | _ => R (resV e ts) w') (envOf args) w
    else False
    | none => False

theorem resT_run {rs : List ResultVar} {ts : List Nat} (h : resT rs = some ts) : rs = ts.map .tmp := by
  induction rs generalizing ts with
  | nil => simp [resT] at h; subst h; rfl
  | cons r rs ih =>
    cases r with
    | tmp t =>
      simp only [resT] at h
      split at h
      · rename_i l hl; obtain rfl := Option.some.inj h; rw [ih hl]; rfl
      · cases h
    | cell => simp [resT] at h

theorem results_run {fn : Func} {ts : List Nat} (h : resT fn.results.toList = some ts) (tmps : Array Value) (w : World) :
    (results fn tmps).run P w = .ok (resV (fun t => tmps.getD t undef) ts) w := by
  have hr : fn.results = (ts.map ResultVar.tmp).toArray := by rw [← resT_run h]
  unfold results
  have hm : ∀ (f : ResultVar → Sem Value), (∀ t w, (f (.tmp t)).run P w = .ok (tmps.getD t undef) w) → (fn.results.mapM f).run P w = .ok ((ts.map fun t => tmps.getD t undef).toArray) w := by
    intro f hf
    rw [hr, mapM_array (g := fun r => match r with | .tmp t => tmps.getD t undef | .cell _ _ => undef) w]
    · congr 1; apply Array.ext'; simp
    · intro r hr
      obtain ⟨t, ht, rfl⟩ := List.mem_map.1 (by simpa using hr)
      exact hf t w
  rw [run_bind_ok (hm _ fun t w => rfl)]
  match ts with
  | [] => simp [resV, go_sem]
  | [t] => simp [resV, go_sem]
  | t :: u :: r => simp [resV, go_sem]

theorem ofAct_enter (args : List Value) (n : Nat) (h : args.length ≤ n) :
    ofAct { tmps := args.toArray ++ Array.replicate (n - args.length) undef, defers := [] } = envOf args := by
  funext t
  simp only [ofAct, envOf]
  rcases Nat.lt_or_ge t args.length with ht | ht
  · have h1 : (args.toArray ++ Array.replicate (n - args.length) undef)[t]? = args[t]? := by
      rw [Array.getElem?_append_left (by simpa using ht)]; simp
    rw [Array.getD_eq_getD_getElem?, h1, List.getElem?_eq_getElem ht]
    rfl
  · rw [List.getElem?_eq_none ht, Array.getD_eq_getD_getElem?, Array.getElem?_append_right (by simpa using ht)]
    simp only [List.size_toArray, Array.getElem?_replicate]
    split <;> rfl

theorem calls_of_den {f : FuncId} {fn : Func} {an : An} {args : List Value} {w : World} {R : Value → World → Prop}
    (hE : ∀ g ∈ E, enters P g) (hm : P.follows .mixedOrders = true) (hf : P.funcs[f]? = some fn)
    (h : denF P E fn an args w R) : Calls P f args.toArray w fun e w' => ∃ v, e = .returned v ∧ R v w' := by
  unfold denF at h
  split at h
  · exact h.elim
  rename_i c hb
  split at h
  · rename_i ts hts
    cases hn : Nat.ble args.length fn.ntmps <;> simp only [hn, cond_true, cond_false] at h
    rw [Nat.ble_eq] at hn
    refine calls_of_wp hf hb ?_
    simp only [List.size_toArray]
    rw [← ofAct_enter args fn.ntmps hn] at h
    refine wp_mono (den_sound hE hm an _ _ _ _ h (by simp; omega) rfl) ?_
    intro x a w' hx
    have hres : ∀ w', (results fn a.tmps).run P w' = .ok (resV (ofAct a) ts) w' := fun w' => results_run hts a.tmps w'
    cases x <;> simp only [PQ] at hx <;> first | exact hx.elim | skip
    · exact ⟨hx.2.2.1, _, hres w', _, rfl, hx.1⟩
    · exact hx.1.elim
    · exact ⟨hx.2.2.1, _, hres w', _, rfl, hx.1⟩
  · exact h.elim
end
/-! ## Short words for loads of one cell -/
def ldI (k : IntKind) (a : Addr) (w : World) (K : Int → Prop) : Prop := ∃ n : Int, w.cell? a = some (.int k n) ∧ K n
def ldB (a : Addr) (w : World) (K : Bool → Prop) : Prop := ∃ b : Bool, w.cell? a = some (.bool b) ∧ K b
def ldP (a : Addr) (w : World) (K : Option Addr → Prop) : Prop := ∃ p : Option Addr, w.cell? a = some (.pointer p) ∧ K p
def ldS (a : Addr) (w : World) (K : Option Addr → Nat → Nat → Prop) : Prop := ∃ (b : Option Addr) (l c : Nat), w.cell? a = some (.slice b l c) ∧ K b l c
def ldV (a : Addr) (w : World) (K : Value → Prop) : Prop := ∃ x : Value, w.cell? a = some x ∧ K x
def ldT (a : Addr) (w : World) (K : ByteArray → Prop) : Prop := ∃ s : ByteArray, w.cell? a = some (.string s) ∧ K s
def ldM (a : Addr) (w : World) (K : Option Nat → Prop) : Prop := ∃ r : Option Nat, w.cell? a = some (.map r) ∧ K r

end Go.Proofs.YtledchlbmilneaaDoor
