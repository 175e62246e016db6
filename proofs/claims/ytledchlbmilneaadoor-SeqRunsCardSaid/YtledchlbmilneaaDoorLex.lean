/-
A reading of a function's code as one formula: soundness, once for all programs.
Conditions: none; every theorem here is over any program.
-/
import Derived.Orders
import Derived.Laws.AppendOwn
import Derived.Below
import Derived.KernelRfl
import Derived.Tactics
namespace Go.Proofs.YtledchlbmilneaaDoor
open Go
set_option linter.unusedVariables false
set_option linter.unusedSimpArgs false

/-! ## Environments -/
abbrev Env := Nat → Value
def Env.put (e : Env) (d : Nat) (v : Value) : Env := fun t => bif Nat.beq t d then v else e t
def Env.puts (e : Env) : List Nat → List Value → Env
  | d :: ds, v :: vs => (Env.puts e ds vs).put d v
  | _, _ => e
def Env.mix (A : List Nat) (e f : Env) : Env := fun t => bif A.any (fun a => Nat.beq t a) then f t else e t
def ev (e : Env) : Operand → Value
  | .tmp t => e t
  | .const v => v
  | .global g => .pointer (some ⟨g, 0, none⟩)
  | .func f => .func (.func f) #[] #[]
def ofAct (a : Act) : Env := fun t => a.tmps.getD t undef

theorem ev_ofAct (a : Act) : ev (ofAct a) = a.eval := by
  funext x; cases x <;> rfl

theorem Env.put_self (e : Env) (d : Nat) (v : Value) : e.put d v d = v := by simp [Env.put]
theorem Env.put_ne (e : Env) (d t : Nat) (v : Value) (h : t ≠ d) : e.put d v t = e t := by
  have : Nat.beq t d = false := by
    cases hb : Nat.beq t d with
    | false => rfl
    | true => exact absurd (Nat.eq_of_beq_eq_true hb) h
  simp [Env.put, this]

theorem ofAct_put (a : Act) (d : Nat) (v : Value) (h : d < a.tmps.size) : ofAct (a.put (some d) v) = (ofAct a).put d v := by
  funext t
  by_cases ht : t = d
  · subst ht; simp [ofAct, Act.put, Env.put_self, h]
  · rw [Env.put_ne _ _ _ _ ht]
    simp [ofAct, Act.put, Array.getElem?_setIfInBounds_ne (Ne.symm ht)]

/-! ## Types, by leaves -/
inductive Lf where
  | int (k : IntKind) | bool | str | ptr | slc | ifc | fn | map
inductive Ty where
  | one (l : Lf) | agg (ls : List Lf) | tup (ts : List Ty) | bad

def szT (P : Program) (t : TypeId) : Nat := match P.info? t with | some i => i.size | none => 0
def byT (P : Program) (t : TypeId) : Nat := match P.info? t with | some i => i.bytes | none => 0
def aggT (P : Program) (t : TypeId) : Bool := match P.underlying t with | some (.struct _) => true | some (.array _ _) => true | _ => false

def leavesT (P : Program) : Nat → TypeId → Option (List Lf)
  | 0, _ => none
  | n + 1, t => match P.underlying t with
    | some (.int k) => some [.int k]
    | some .bool => some [.bool]
    | some .string => some [.str]
    | some (.pointer _) => some [.ptr]
    | some (.slice _) => some [.slc]
    | some (.interface _) => some [.ifc]
    | some (.func _ _ _) => some [.fn]
    | some (.map _ _) => some [.map]
    | some (.struct fs) => fs.toList.foldr (fun f acc => match leavesT P n f.type, acc with | some x, some y => some (x ++ y) | _, _ => none) (some [])
    | some (.array k e) => match leavesT P n e with | some x => some ((List.replicate k x).flatten) | none => none
    | _ => none

def tyT (P : Program) (t : TypeId) : Ty :=
  match P.underlying t with
  | some (.tuple es) => .tup (es.toList.map fun e => match aggT P e, leavesT P 8 e with | true, some l => .agg l | false, some [l] => .one l | _, _ => .bad)
  | _ => match aggT P t, leavesT P 8 t with | true, some l => .agg l | false, some [l] => .one l | _, _ => .bad

def isI (v : Value) : Prop := v = .nilIface ∨ ∃ t x, v = .iface t x
def nilI : Value → Bool | .nilIface => true | _ => false
def nilF : Value → Bool | .nilFunc => true | _ => false

/-- Some value of the leaf's kind, put together out of its parts. -/
def exL (l : Lf) (K : Value → Prop) : Prop :=
  match l with
  | .int k => ∃ n : Int, K (.int k n)
  | .bool => ∃ b : Bool, K (.bool b)
  | .str => ∃ s : ByteArray, K (.string s)
  | .ptr => ∃ p : Option Addr, K (.pointer p)
  | .slc => ∃ (b : Option Addr) (l c : Nat), K (.slice b l c)
  | .ifc => ∃ x : Value, K x
  | .fn => ∃ x : Value, K x
  | .map => ∃ r : Option Nat, K (.map r)
theorem exL_out {l : Lf} {K : Value → Prop} (h : exL l K) : ∃ v, K v := by
  cases l <;> simp only [exL] at h
  case slc => obtain ⟨b, l, c, h⟩ := h; exact ⟨_, h⟩
  all_goals (obtain ⟨x, h⟩ := h; exact ⟨_, h⟩)
def exLs : List Lf → (List Value → Prop) → Prop
  | [], K => K []
  | l :: r, K => exL l fun v => exLs r fun vs => K (v :: vs)
theorem exLs_out {ls : List Lf} {K : List Value → Prop} (h : exLs ls K) : ∃ vs, K vs := by
  induction ls generalizing K with
  | nil => exact ⟨_, h⟩
  | cons l r ih => obtain ⟨v, h⟩ := exL_out h; obtain ⟨vs, h⟩ := ih h; exact ⟨_, h⟩
def exT1 : Ty → (Value → Prop) → Prop
  | .one l, K => exL l K
  | .agg ls, K => exLs ls fun vs => K (.agg vs.toArray)
  | _, _ => False
def exTs : List Ty → (List Value → Prop) → Prop
  | [], K => K []
  | t :: r, K => exT1 t fun v => exTs r fun vs => K (v :: vs)
def exT : Ty → (Value → Prop) → Prop
  | .one l, K => exL l K
  | .agg ls, K => exLs ls fun vs => K (.agg vs.toArray)
  | .tup ts, K => exTs ts fun vs => K (.tuple vs.toArray)
  | .bad, _ => False
theorem exT1_out {t : Ty} {K : Value → Prop} (h : exT1 t K) : ∃ v, K v := by
  cases t <;> simp only [exT1] at h
  case one l => exact exL_out h
  case agg ls => obtain ⟨vs, h⟩ := exLs_out h; exact ⟨_, h⟩
theorem exTs_out {ts : List Ty} {K : List Value → Prop} (h : exTs ts K) : ∃ vs, K vs := by
  induction ts generalizing K with
  | nil => exact ⟨_, h⟩
  | cons l r ih => obtain ⟨v, h⟩ := exT1_out h; obtain ⟨vs, h⟩ := ih h; exact ⟨_, h⟩
theorem exT_out {t : Ty} {K : Value → Prop} (h : exT t K) : ∃ v, K v := by
  cases t <;> simp only [exT] at h
  case one l => exact exL_out h
  case agg ls => obtain ⟨vs, h⟩ := exLs_out h; exact ⟨_, h⟩
  case tup ts => obtain ⟨vs, h⟩ := exTs_out h; exact ⟨_, h⟩
/-- All values of the leaf's kind. -/
def allL (l : Lf) (K : Value → Prop) : Prop :=
  match l with
  | .int k => ∀ n : Int, K (.int k n)
  | .bool => ∀ b : Bool, K (.bool b)
  | .str => ∀ s : ByteArray, K (.string s)
  | .ptr => ∀ p : Option Addr, K (.pointer p)
  | .slc => ∀ (b : Option Addr) (l c : Nat), K (.slice b l c)
  | .ifc => ∀ x : Value, K x
  | .fn => ∀ x : Value, K x
  | .map => ∀ r : Option Nat, K (.map r)
def allLs : List Lf → (List Value → Prop) → Prop
  | [], K => K []
  | l :: r, K => allL l fun v => allLs r fun vs => K (v :: vs)
def allT1 : Ty → (Value → Prop) → Prop
  | .one l, K => allL l K
  | .agg ls, K => allLs ls fun vs => K (.agg vs.toArray)
  | _, _ => False
def allTs : List Ty → (List Value → Prop) → Prop
  | [], K => K []
  | t :: r, K => allT1 t fun v => allTs r fun vs => K (v :: vs)
def sameK : IntKind → IntKind → Bool
  | .i8, .i8 | .i16, .i16 | .i32, .i32 | .i64, .i64 | .u8, .u8 | .u16, .u16 | .u32, .u32 | .u64, .u64 => true
  | _, _ => false
theorem sameK_eq {a b : IntKind} (h : sameK a b = true) : a = b := by cases a <;> cases b <;> simp_all [sameK]
/-- The value fits the leaf. -/
def fitL (l : Lf) (v : Value) : Bool :=
  match l with
  | .int k => match v with | .int k' _ => sameK k' k | _ => false
  | .bool => match v with | .bool _ => true | _ => false
  | .str => match v with | .string _ => true | _ => false
  | .ptr => match v with | .pointer _ => true | _ => false
  | .slc => match v with | .slice _ _ _ => true | _ => false
  | .ifc => true
  | .fn => true
  | .map => match v with | .map _ => true | _ => false
theorem allL_fit {l : Lf} {K : Value → Prop} (h : allL l K) {v : Value} (hv : fitL l v = true) : K v := by
  cases l <;> simp only [allL, fitL] at h hv
  case ifc => exact h _
  case fn => exact h _
  case int k =>
    cases v <;> simp_all
    have := sameK_eq hv; subst this; exact h _
  all_goals (cases v <;> first | (simp at hv; done) | exact h _ | exact h _ _ _)
def fitLs : List Lf → List Value → Bool
  | [], [] => true
  | l :: r, v :: vs => fitL l v && fitLs r vs
  | _, _ => false
theorem allLs_fit {ls : List Lf} {K : List Value → Prop} (h : allLs ls K) {vs : List Value} (hv : fitLs ls vs = true) : K vs := by
  induction ls generalizing K vs with
  | nil => cases vs with | nil => exact h | cons => simp [fitLs] at hv
  | cons l r ih => cases vs with
    | nil => simp [fitLs] at hv
    | cons v vs => simp [fitLs] at hv; exact ih (allL_fit h hv.1) hv.2
def fitT1 : Ty → Value → Bool
  | .one l, v => fitL l v
  | .agg ls, v => match v with | .agg vs => fitLs ls vs.toList | _ => false
  | _, _ => false
theorem allT1_fit {t : Ty} {K : Value → Prop} (h : allT1 t K) {v : Value} (hv : fitT1 t v = true) : K v := by
  cases t <;> simp only [allT1, fitT1] at h hv
  case one l => exact allL_fit h hv
  case agg ls => cases v <;> simp at hv; have := allLs_fit h hv; simpa using this
  all_goals simp at hv
def fitTs : List Ty → List Value → Bool
  | [], [] => true
  | l :: r, v :: vs => fitT1 l v && fitTs r vs
  | _, _ => false
theorem allTs_fit {ls : List Ty} {K : List Value → Prop} (h : allTs ls K) {vs : List Value} (hv : fitTs ls vs = true) : K vs := by
  induction ls generalizing K vs with
  | nil => cases vs with | nil => exact h | cons => simp [fitTs] at hv
  | cons l r ih => cases vs with
    | nil => simp [fitTs] at hv
    | cons v vs => simp [fitTs] at hv; exact ih (allT1_fit h hv.1) hv.2

end Go.Proofs.YtledchlbmilneaaDoor
