/-
A reading of a function's code as one formula: the operations that leave the world alone.
Conditions: none; every theorem here is over any program.
-/
import Derived.Test.YtledchlbmilneaaDoorLex
namespace Go.Proofs.YtledchlbmilneaaDoor
open Go
set_option linter.unusedVariables false
set_option linter.unusedSimpArgs false

/-! ## Words of the formulas -/
def nck (p : Option Addr) (K : Addr → Prop) : Prop := ∃ a, p = some a ∧ K a
def pt (p : Option Addr) (K : Addr → Prop) : Prop := match p with | some a => K a | none => False
def ixS (b : Option Addr) (l : Nat) (n : Int) (sz : Nat) (K : Addr → Prop) : Prop := ∃ a, b = some a ∧ 0 ≤ n ∧ n < (l : Int) ∧ K (a.add (n.toNat * sz))
def ixA (a : Addr) (len : Nat) (n : Int) (sz : Nat) (K : Addr → Prop) : Prop := 0 ≤ n ∧ n < (len : Int) ∧ K (a.add (n.toNat * sz))
def ixV (cs : Array Value) (len : Nat) (n : Int) (sz : Nat) (l : Lf) (K : Value → Prop) : Prop := exL l fun v => 0 ≤ n ∧ n < (len : Int) ∧ cs[n.toNat * sz]? = some v ∧ K v
def ixStr (s : ByteArray) (n : Int) (K : Int → Prop) : Prop := ∃ b : UInt8, 0 ≤ n ∧ s[n.toNat]? = some b ∧ K b.toNat
def oneC : Value → Bool | .agg _ | .tuple _ => false | _ => true
def ocm (v : Value) (K : Prop) : Prop := match v with | .agg _ => False | .tuple _ => False | _ => K
theorem ocm_out {v : Value} {K : Prop} (h : ocm v K) : K ∧ v.cells = #[v] ∧ oneC v = true := by
  cases v <;> first | exact ⟨h, rfl, rfl⟩ | exact h.elim
/-- Bounds of 'x[lo:hi:mx]', by what is given. -/
def slB (b : Option Int) (y : Nat) (d : Nat) (K : Nat → Prop) : Prop := match b with | some n => 0 ≤ n ∧ n ≤ (y : Int) ∧ K n.toNat | none => K d
def asI? : Option Value → Option (Option Int)
  | none => some none
  | some (.int _ n) => some (some n)
  | _ => none

def opIsConst : Operand → Bool | .const _ => true | _ => false

def dbinI (op : BinOp) (k : IntKind) (a : Int) (k' : IntKind) (b : Int) (K : Value → Prop) : Prop :=
  match op with
  | .shl => 0 ≤ b ∧ K (.int k (k.wrap (a * 2 ^ (min b.toNat k.bits))))
  | .shr => 0 ≤ b ∧ K (.int k (a.fdiv (2 ^ (min b.toNat k.bits))))
  | .add => bif sameK k k' then K (.int k (k.wrap (a + b))) else False
  | .sub => bif sameK k k' then K (.int k (k.wrap (a - b))) else False
  | .mul => bif sameK k k' then K (.int k (k.wrap (a * b))) else False
  | .quo => bif sameK k k' then (b ≠ 0 ∧ K (.int k (k.wrap (a.tdiv b)))) else False
  | .rem => bif sameK k k' then (b ≠ 0 ∧ K (.int k (a.tmod b))) else False
  | .and => bif sameK k k' then K (.int k (k.wrap ((BitVec.ofInt k.bits a &&& BitVec.ofInt k.bits b).toNat))) else False
  | .or => bif sameK k k' then K (.int k (k.wrap ((BitVec.ofInt k.bits a ||| BitVec.ofInt k.bits b).toNat))) else False
  | .xor => bif sameK k k' then K (.int k (k.wrap ((BitVec.ofInt k.bits a ^^^ BitVec.ofInt k.bits b).toNat))) else False
  | .andNot => bif sameK k k' then K (.int k (k.wrap ((BitVec.ofInt k.bits a &&& ~~~(BitVec.ofInt k.bits b)).toNat))) else False
  | .eql => bif sameK k k' then K (.bool (a == b)) else False
  | .neq => bif sameK k k' then K (.bool (a != b)) else False
  | .lss => bif sameK k k' then K (.bool (decide (a < b))) else False
  | .leq => bif sameK k k' then K (.bool (decide (a ≤ b))) else False
  | .gtr => bif sameK k k' then K (.bool (decide (a > b))) else False
  | .geq => bif sameK k k' then K (.bool (decide (a ≥ b))) else False

def eqK (op : BinOp) (b : Bool) (K : Value → Prop) : Prop := match op with | .eql => K (.bool b) | .neq => K (.bool (!b)) | _ => False

/-- Two values under an operator. -/
def dbin (P : Program) (op : BinOp) (xT : TypeId) (cx cy : Bool) (x y : Value) (K : Value → Prop) : Prop :=
  match y with
  | .nilIface => bif cy || cx then (match P.underlying xT with | some (.interface _) => isI x ∧ eqK op (nilI x) K | _ => False) else False
  | .int k' b => match x with
    | .int k a => dbinI op k a k' b K
    | _ => False
  | .pointer none => match x with
    | .pointer p => match P.underlying xT with | some (.pointer _) => eqK op p.isNone K | _ => False
    | _ => False
  | .slice none _ _ => match x with
    | .slice b _ _ => match P.underlying xT with | some (.slice _) => eqK op b.isNone K | _ => False
    | _ => False
  | .bool b => match x with
    | .bool a => match P.underlying xT with | some .bool => eqK op (a == b) K | _ => False
    | _ => False
  | .string b => match x with
    | .string a => eqK op (a.toList == b.toList) K
    | _ => False
  | _ => False

theorem run_pure' {α : Type} (P : Program) (a : α) (w : World) : (pure a : Sem α).run P w = .ok a w := rfl

section
variable {P : Program} {t : TypeId} {w : World}
theorem run_bind_ok {α β : Type} {s : Sem α} {f : α → Sem β} {a : α} {w' : World} (h : s.run P w = .ok a w') : (s >>= f).run P w = (f a).run P w' := by
  rw [Sem.run_bind, h]; rfl
theorem run_prog : (program : Sem Program).run P w = .ok P w := rfl
theorem run_und {d : TypeDesc} (h : P.underlying t = some d) : (underlying t).run P w = .ok d w := by
  unfold underlying; rw [run_bind_ok run_prog, h]; rfl
theorem run_tinfo {i : TypeInfo} (h : P.info? t = some i) : (typeInfo t).run P w = .ok i w := by
  unfold typeInfo; rw [run_bind_ok run_prog, h]; rfl
theorem run_szT (h : (P.info? t).isSome = true) : (sizeOf t).run P w = .ok (szT P t) w := by
  obtain ⟨i, hi⟩ := Option.isSome_iff_exists.1 h
  unfold sizeOf szT; rw [run_bind_ok (run_tinfo hi), hi]; rfl
theorem run_aggT (h : (P.underlying t).isSome = true) : (isAgg t).run P w = .ok (aggT P t) w := by
  obtain ⟨i, hi⟩ := Option.isSome_iff_exists.1 h
  unfold isAgg aggT; rw [run_bind_ok (run_und hi), hi]; cases i <;> rfl
theorem eqIn_ptr (d : Nat) {e : TypeId} (p : Option Addr) (he : P.underlying t = some (.pointer e)) : (Op.equalIn (d + 1) t (.pointer p) (.pointer none)).run P w = .ok p.isNone w := by
  unfold Op.equalIn; rw [run_bind_ok (run_und he)]; cases p <;> rfl
theorem eqIn_slc (d : Nat) {e : TypeId} (b : Option Addr) (l c l' c' : Nat) (he : P.underlying t = some (.slice e)) : (Op.equalIn (d + 1) t (.slice b l c) (.slice none l' c')).run P w = .ok b.isNone w := by
  unfold Op.equalIn; rw [run_bind_ok (run_und he)]; cases b <;> rfl
theorem eqIn_bool (d : Nat) (a b : Bool) (he : P.underlying t = some .bool) : (Op.equalIn (d + 1) t (.bool a) (.bool b)).run P w = .ok (a == b) w := by
  unfold Op.equalIn; rw [run_bind_ok (run_und he)]; rfl
theorem eqIn_ifc (d : Nat) {ms : Array (String × TypeId)} (x : Value) (hx : isI x) (he : P.underlying t = some (.interface ms)) : (Op.equalIn (d + 1) t x .nilIface).run P w = .ok (nilI x) w := by
  unfold Op.equalIn; rw [run_bind_ok (run_und he)]; rcases hx with rfl | ⟨t', y, rfl⟩ <;> rfl
theorem equal_is (x y : Value) : Op.equal t x y = Op.equalIn (9999 + 1) t x y := rfl
theorem binOp_eql (x y : Value) (b : Bool) (hb : binOp .eql t x y = (do pure (.bool (← Op.equal t x y)) : Sem Value)) (h : (Op.equalIn (9999 + 1) t x y).run P w = .ok b w) : (binOp .eql t x y).run P w = .ok (.bool b) w := by
  rw [hb, equal_is, run_bind_ok h]; rfl
theorem binOp_neq (x y : Value) (b : Bool) (hb : binOp .neq t x y = (do pure (.bool (!(← Op.equal t x y))) : Sem Value)) (h : (Op.equalIn (9999 + 1) t x y).run P w = .ok b w) : (binOp .neq t x y).run P w = .ok (.bool !b) w := by
  rw [hb, equal_is, run_bind_ok h]; rfl
theorem guard_run {op : BinOp} {ox oy : Operand} {x y : Value} {r : Result Value} (hg : (eqGuard op t ox oy x y).run P w = .ok () w) (h : (binOp op t x y).run P w = r) : (do eqGuard op t ox oy x y; binOp op t x y : Sem Value).run P w = r := by
  rw [run_bind_ok hg, h]
end

theorem eqK_out {op : BinOp} {b : Bool} {K : Value → Prop} (h : eqK op b K) : (op = .eql ∧ K (.bool b)) ∨ (op = .neq ∧ K (.bool (!b))) := by
  unfold eqK at h; cases op <;> simp_all

set_option maxHeartbeats 1000000 in
theorem dbinI_sound {P : Program} {op : BinOp} {xT : TypeId} {ox oy : Operand} {k k' : IntKind} {a b : Int} {K : Value → Prop} (h : dbinI op k a k' b K) :
    ∃ v, (∀ w, (do eqGuard op xT ox oy (.int k a) (.int k' b); binOp op xT (.int k a) (.int k' b) : Sem Value).run P w = .ok v w) ∧ K v := by
  cases op <;> simp only [dbinI] at h
  case shl => exact ⟨_, fun w => by simp [eqGuard, binOp, Op.shift, go_sem, Int.not_lt.mpr h.1], h.2⟩
  case shr => exact ⟨_, fun w => by simp [eqGuard, binOp, Op.shift, go_sem, Int.not_lt.mpr h.1], h.2⟩
  all_goals
    cases hk : sameK k k' <;> simp only [hk, cond_true, cond_false] at h
    have hk' := sameK_eq hk
    subst hk'
  all_goals first
    | exact ⟨_, fun w => by simp [eqGuard, binOp, Op.intArith, Op.intBits, Op.intCmp, go_sem]; try rfl, h⟩
    | exact ⟨_, fun w => by simp [eqGuard, binOp, Op.intDiv, go_sem, h.1], h.2⟩

theorem dbin_sound {P : Program} {op : BinOp} {xT : TypeId} {ox oy : Operand} {x y : Value} {K : Value → Prop}
    (h : dbin P op xT (opIsConst ox) (opIsConst oy) x y K) :
    ∃ v, (∀ w, (do eqGuard op xT ox oy x y; binOp op xT x y : Sem Value).run P w = .ok v w) ∧ K v := by
  unfold dbin at h
  split at h
  · cases hc : (opIsConst oy || opIsConst ox) <;> simp only [hc, cond_true, cond_false] at h
    split at h
    · rename_i he
      obtain ⟨hi, h⟩ := h
      have hg : ∀ (op : BinOp) (w : World), (eqGuard op xT ox oy x .nilIface).run P w = .ok () w := by
        intro op w
        rcases hi with rfl | ⟨t, y, rfl⟩
        · cases ox <;> cases oy <;> simp_all [opIsConst, eqGuard, go_sem] <;> (cases op <;> rfl)
        · simp [eqGuard, go_sem]
      rcases eqK_out h with ⟨rfl, h⟩ | ⟨rfl, h⟩
      · exact ⟨_, fun w => guard_run (hg _ _) (binOp_eql _ _ _ (by rcases hi with rfl | ⟨t, y, rfl⟩ <;> simp [binOp]) (eqIn_ifc _ _ hi he)), h⟩
      · exact ⟨_, fun w => guard_run (hg _ _) (binOp_neq _ _ _ (by rcases hi with rfl | ⟨t, y, rfl⟩ <;> simp [binOp]) (eqIn_ifc _ _ hi he)), h⟩
    · exact h.elim
  · split at h
    · exact dbinI_sound h
    · exact h.elim
  · split at h
    · split at h
      · rename_i e he
        rcases eqK_out h with ⟨rfl, h⟩ | ⟨rfl, h⟩
        · exact ⟨_, fun w => guard_run (by simp [eqGuard, go_sem]) (binOp_eql _ _ _ (by simp [binOp]) (eqIn_ptr _ _ he)), h⟩
        · exact ⟨_, fun w => guard_run (by simp [eqGuard, go_sem]) (binOp_neq _ _ _ (by simp [binOp]) (eqIn_ptr _ _ he)), h⟩
      · exact h.elim
    · exact h.elim
  · split at h
    · split at h
      · rename_i e he
        rcases eqK_out h with ⟨rfl, h⟩ | ⟨rfl, h⟩
        · exact ⟨_, fun w => guard_run (by simp [eqGuard, go_sem]) (binOp_eql _ _ _ (by simp [binOp]) (eqIn_slc _ _ _ _ _ _ he)), h⟩
        · exact ⟨_, fun w => guard_run (by simp [eqGuard, go_sem]) (binOp_neq _ _ _ (by simp [binOp]) (eqIn_slc _ _ _ _ _ _ he)), h⟩
      · exact h.elim
    · exact h.elim
  · split at h
    · split at h
      · rename_i he
        rcases eqK_out h with ⟨rfl, h⟩ | ⟨rfl, h⟩
        · exact ⟨_, fun w => guard_run (by simp [eqGuard, go_sem]) (binOp_eql _ _ _ (by simp [binOp]) (eqIn_bool _ _ _ he)), h⟩
        · exact ⟨_, fun w => guard_run (by simp [eqGuard, go_sem]) (binOp_neq _ _ _ (by simp [binOp]) (eqIn_bool _ _ _ he)), h⟩
      · exact h.elim
    · exact h.elim
  · split at h
    · rcases eqK_out h with ⟨rfl, h⟩ | ⟨rfl, h⟩
      · exact ⟨_, fun w => by simp [eqGuard, binOp, Op.stringOp, go_sem], h⟩
      · exact ⟨_, fun w => by simp [eqGuard, binOp, Op.stringOp, go_sem], h⟩
    · exact h.elim
  · exact h.elim

end Go.Proofs.YtledchlbmilneaaDoor
