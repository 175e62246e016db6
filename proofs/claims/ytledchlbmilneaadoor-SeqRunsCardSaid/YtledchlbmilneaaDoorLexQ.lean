/-
A reading of a function's code as one formula: one operation that leaves the world alone, and one that loads.
Conditions: none; every theorem here is over any program.
-/
import Derived.Test.YtledchlbmilneaaDoorLexP
namespace Go.Proofs.YtledchlbmilneaaDoor
open Go
set_option linter.unusedVariables false
set_option linter.unusedSimpArgs false

def dpick (c a b : Value) (K : Value → Prop) : Prop :=
  match c with
  | .bool t => match a with
    | .bool x => match b with
      | .bool y => K (.bool (bif t then x else y))
      | b => bif t then K a else K b
    | a => bif t then K a else K b
  | _ => False

def dslice (P : Program) (t : TypeId) (x : Value) (lo hi mx : Option Value) (K : Value → Prop) : Prop :=
  match asI? lo, asI? hi, asI? mx with
  | some lo, some hi, some mx =>
    match P.underlying t with
    | some .string => match x, mx with
      | .string s, none => slB hi s.size s.size fun h => slB lo h 0 fun l => K (.string (s.extract l h))
      | _, _ => False
    | some (.slice e) => match x with
      | .slice b len cap => match hi, mx with
        | none, some _ => False
        | hi, mx => bif (P.info? e).isSome then slB mx cap cap fun m => slB hi m len fun h => slB lo h 0 fun l => K (.slice (if m = l then b else b.map (·.add (l * szT P e))) (h - l) (m - l)) else False
      | _ => False
    | some (.array n e) => match x with
      | .pointer p => match hi, mx with
        | none, some _ => False
        | hi, mx => bif (P.info? e).isSome then pt p fun a => slB mx n n fun m => slB hi m n fun h => slB lo h 0 fun l => K (.slice (some (if m = l then a else a.add (l * szT P e))) (h - l) (m - l)) else False
      | _ => False
    | _ => False
  | _, _, _ => False

def fillD (place : Nat → Option (Nat × Nat × Bool)) (cells : Array Value) : List (Nat × Value) → (Array Value → Prop) → Prop
  | [], K => K cells
  | (i, v) :: r, K => match place i with
    | some (off, size, true) => match v with
      | .agg cs => bif Nat.beq cs.size size && Nat.ble (off + cs.size) cells.size then fillD place (cs.zipIdx.foldl (fun cs (c, j) => cs.setIfInBounds (off + j) c) cells) r K else False
      | _ => False
    | some (off, size, false) => bif Nat.beq 1 size && Nat.ble (off + 1) cells.size then ocm v (fillD place (cells.setIfInBounds (off + 0) v) r K) else False
    | none => False

theorem fillD_out {place : Nat → Option (Nat × Nat × Bool)} {place' : Nat → Option (Nat × Nat)} (hp : ∀ i, place' i = (place i).map fun x => (x.1, x.2.1)) (l : List (Nat × Value)) :
    ∀ {cells : Array Value} {K : Array Value → Prop}, fillD place cells l K → ∃ c, Instr.fill place' cells l = some c ∧ K c := by
  induction l with
  | nil => intro cells K h; exact ⟨_, rfl, h⟩
  | cons x r ih =>
    obtain ⟨i, v⟩ := x
    intro cells K h
    unfold fillD at h
    unfold Instr.fill
    rw [hp i]
    split at h
    · rename_i off size hpi
      rw [hpi]; simp only [Option.map_some]
      split at h
      · rename_i cs
        cases hb : (Nat.beq cs.size size && Nat.ble (off + cs.size) cells.size) <;> simp only [hb, cond_true, cond_false] at h
        simp only [Bool.and_eq_true, Nat.beq_eq, Nat.ble_eq] at hb
        have hc : ¬ ((decide ((Value.agg cs).cells.size ≠ size) || decide (off + (Value.agg cs).cells.size > cells.size)) = true) := by
          simp [Value.cells, hb.1]; omega
        rw [if_neg hc]
        exact ih h
      · exact h.elim
    · rename_i off size hpi
      rw [hpi]; simp only [Option.map_some]
      cases hb : (Nat.beq 1 size && Nat.ble (off + 1) cells.size) <;> simp only [hb, cond_true, cond_false] at h
      simp only [Bool.and_eq_true, Nat.beq_eq, Nat.ble_eq] at hb
      obtain ⟨h, hc, _⟩ := ocm_out h
      rw [hc, if_neg (by simp; omega)]
      have := ih h
      simpa using this
    · exact h.elim

def dbuild (P : Program) (t : TypeId) (parts : List (Nat × Value)) (K : Value → Prop) : Prop :=
  match P.info? t with
  | some i => match i.zero with
    | some z => match P.underlying t with
      | some (.struct fs) => bif fs.toList.all fun f => (P.info? f.type).isSome then fillD (fun j => (fs[j]?).map fun f => (f.offset, szT P f.type, aggT P f.type)) z.cells parts fun cs => K (.agg cs) else False
      | some (.array _ e) => bif (P.info? e).isSome then fillD (fun j => some (j * szT P e, szT P e, aggT P e)) z.cells parts fun cs => K (.agg cs) else False
      | _ => False
    | none => False
  | none => False

def dblt (P : Program) (b : Builtin) (argTypes : List TypeId) (vs : List Value) (K : Value → Prop) : Prop :=
  match b with
  | .len => match vs, argTypes with
    | [x], t :: _ => match P.underlying t with
      | some .string => match x with | .string s => K (.int .i64 s.size) | _ => False
      | some (.array n _) => K (.int .i64 n)
      | some (.slice _) => match x with | .slice _ n _ => K (.int .i64 n) | _ => False
      | _ => False
    | _, _ => False
  | .cap => match vs, argTypes with
    | [x], t :: _ => match P.underlying t with
      | some (.slice _) => match x with | .slice _ _ n => K (.int .i64 n) | _ => False
      | _ => False
    | _, _ => False
  | .min => match vs with
    | [x, y] => match x with | .int k a => (match y with | .int _ b => K (.int k (if b < a then b else a)) | _ => False) | _ => False
    | _ => False
  | .max => match vs with
    | [x, y] => match x with | .int k a => (match y with | .int _ b => K (.int k (if b > a then b else a)) | _ => False) | _ => False
    | _ => False
  | _ => False

/-- An operation that leaves the world alone, whatever the world. -/
def dpure (P : Program) (o : Oper) (ρ : Operand → Value) (K : Value → Prop) : Prop :=
  match o.op with
  | .move x => K (ρ x)
  | .assign x => K (ρ x)
  | .pick c a b => dpick (ρ c) (ρ a) (ρ b) K
  | .nilCheck x => match ρ x with
    | .pointer p => pt p fun a => K (.pointer (some a))
    | .func (.func f) first cap => K (.func (.func f) first cap)
    | _ => False
  | .fieldAddr s x f => match P.underlying s with
    | some (.struct fs) => match fs[f]? with
      | some fd => bif Nat.beq (szT P fd.type) 0 || !(P.info? fd.type).isSome then False else match ρ x with
        | .pointer p => pt p fun a => K (.pointer (some (a.add fd.offset)))
        | _ => False
      | none => False
    | _ => False
  | .field s x f => match P.underlying s with
    | some (.struct fs) => match fs[f]? with
      | some fd => match ρ x with
        | .agg cs => bif !(P.info? fd.type).isSome || !(P.underlying fd.type).isSome then False else bif aggT P fd.type then K (.agg (cs.extract fd.offset (fd.offset + szT P fd.type))) else match cs[fd.offset]? with | some v => K v | none => False
        | _ => False
      | none => False
    | _ => False
  | .indexAddr t x ix => match ρ ix with
    | .int _ n => match P.underlying t with
      | some (.slice e) => match ρ x with
        | .slice b l _ => bif (P.info? e).isSome then ixS b l n (szT P e) fun a => K (.pointer (some a)) else False
        | _ => False
      | some (.array len e) => match ρ x with
        | .pointer p => bif (P.info? e).isSome then pt p fun a => ixA a len n (szT P e) fun a => K (.pointer (some a)) else False
        | _ => False
      | _ => False
    | _ => False
  | .index t x ix => match ρ ix with
    | .int _ n => match P.underlying t with
      | some (.array len e) => match ρ x with
        | .agg cs => match tyT P e with
          | .one l => bif (P.info? e).isSome && (P.underlying e).isSome && !(aggT P e) then ixV cs len n (szT P e) l K else False
          | _ => False
        | _ => False
      | some .string => match ρ x with
        | .string s => ixStr s n fun b => K (.int .u8 b)
        | _ => False
      | _ => False
    | _ => False
  | .binOp op xT x y _ => dbin P op xT (opIsConst x) (opIsConst y) (ρ x) (ρ y) K
  | .unOp op _ x => match op with
    | .neg => match ρ x with | .int k n => K (.int k (k.wrap (0 - n))) | _ => False
    | .xor => match ρ x with | .int k n => K (.int k (k.wrap ((BitVec.ofInt k.bits (if k.signed then -1 else k.max) ^^^ BitVec.ofInt k.bits n).toNat))) | _ => False
    | .not => match ρ x with | .bool b => K (.bool (!b)) | _ => False
    | _ => False
  | .convert src dst x => match P.underlying src with
    | some _ => match P.underlying dst with
      | some (.int k) => match ρ x with | .int _ n => K (.int k (k.wrap n)) | _ => False
      | some .string => match P.underlying src with | some .string => (match ρ x with | .string s => K (.string s) | _ => False) | _ => False
      | _ => False
    | none => False
  | .makeInterface t x => match P.underlying t with
    | some (.interface _) => False
    | some _ => K (.iface t (ρ x))
    | none => False
  | .makeFunc fn first cap => K (.func fn (first.toList.map ρ).toArray (cap.toList.map ρ).toArray)
  | .slice t x lo hi mx => dslice P t (ρ x) (lo.map ρ) (hi.map ρ) (mx.map ρ) K
  | .extract t ix => match ρ t with
    | .tuple vs => match vs[ix]? with | some v => K v | none => False
    | _ => False
  | .build t parts => dbuild P t (parts.toList.map fun p => (p.1, ρ p.2)) K
  | .call c => match c.callee with
    | .builtin b => dblt P b c.argTypes.toList (c.args.toList.map ρ) K
    | _ => False
  | _ => False

section
variable {P : Program} {K : Value → Prop} {ρ : Operand → Value}
def Gives (P : Program) (s : Sem Next) (v : Value) : Prop := ∀ w, s.run P w = .ok (.value v) w
theorem gives_v {s : Sem Value} {v : Value} (h : ∀ w, s.run P w = .ok v w) : Gives P (do pure (.value (← s))) v := fun w => by rw [run_bind_ok (h w)]; rfl
theorem run_ite_pure {α : Type} {c : Prop} [Decidable c] (a b : α) (w : World) : ((if c then pure a else pure b : Sem α)).run P w = .ok (if c then a else b) w := by split <;> rfl

theorem sureAddr_some' (a : Addr) : Instr.sureAddr (.pointer (some a)) = pure a := rfl
theorem dpick_sound {c a b : Value} (h : dpick c a b K) : ∃ t v, c = .bool t ∧ v = (if t then a else b) ∧ K v := by
  unfold dpick at h
  split at h
  · rename_i t
    refine ⟨t, _, rfl, rfl, ?_⟩
    split at h
    · split at h
      · cases t <;> exact h
      · cases t <;> exact h
    · cases t <;> exact h
  · exact h.elim

theorem asI_none {x : Option Value} (h : asI? x = some none) : x = none := by
  unfold asI? at h; split at h <;> simp_all
theorem asI_some {x : Option Value} {n : Int} (h : asI? x = some (some n)) : ∃ k, x = some (.int k n) := by
  unfold asI? at h; split at h <;> simp_all
theorem run_sliceBound {k : IntKind} {n : Int} {y : Nat} {code : BoundsCode} {w : World} (h0 : 0 ≤ n) (h1 : n ≤ (y : Int)) : (Instr.sliceBound (.int k n) y code).run P w = .ok n.toNat w := by
  simp [Instr.sliceBound, asIntOf, go_sem, h0, h1]

theorem bounds_sound {isS : Bool} {len cap : Nat} {lo hi mx : Option Value} {lo' hi' mx' : Option Int} (h1 : asI? lo = some lo') (h2 : asI? hi = some hi') (h3 : asI? mx = some mx')
    (hx : ¬ (hi' = none ∧ mx' ≠ none)) {F : Nat → Nat → Nat → Prop} (h : slB mx' cap cap fun m => slB hi' m len fun h => slB lo' h 0 fun l => F l h m) :
    ∃ l h m, (∀ w, (Instr.sliceBounds isS len cap lo hi mx).run P w = .ok (l, h, m) w) ∧ F l h m := by
  cases mx' with
  | none =>
    obtain rfl := asI_none h3
    simp only [slB] at h
    cases hi' with
    | none =>
      obtain rfl := asI_none h2
      simp only [slB] at h
      cases lo' with
      | none => obtain rfl := asI_none h1; exact ⟨_, _, _, fun w => by simp [Instr.sliceBounds, go_sem], h⟩
      | some a => obtain ⟨k, rfl⟩ := asI_some h1; exact ⟨_, _, _, fun w => by simp [Instr.sliceBounds, go_sem, run_sliceBound h.1 h.2.1], h.2.2⟩
    | some b =>
      obtain ⟨kb, rfl⟩ := asI_some h2
      simp only [slB] at h
      cases lo' with
      | none => obtain rfl := asI_none h1; exact ⟨_, _, _, fun w => by simp [Instr.sliceBounds, go_sem, run_sliceBound h.1 h.2.1], h.2.2⟩
      | some a => obtain ⟨k, rfl⟩ := asI_some h1; exact ⟨_, _, _, fun w => by simp [Instr.sliceBounds, go_sem, run_sliceBound h.1 h.2.1, run_sliceBound h.2.2.1 h.2.2.2.1], h.2.2.2.2⟩
  | some c =>
    obtain ⟨kc, rfl⟩ := asI_some h3
    simp only [slB] at h
    cases hi' with
    | none => exact (hx ⟨rfl, by simp⟩).elim
    | some b =>
      obtain ⟨kb, rfl⟩ := asI_some h2
      simp only [slB] at h
      obtain ⟨hc0, hc1, hb0, hb1, h⟩ := h
      cases lo' with
      | none => obtain rfl := asI_none h1; exact ⟨_, _, _, fun w => by simp [Instr.sliceBounds, go_sem, run_sliceBound hc0 hc1, run_sliceBound hb0 hb1], h⟩
      | some a => obtain ⟨k, rfl⟩ := asI_some h1; exact ⟨_, _, _, fun w => by simp [Instr.sliceBounds, go_sem, run_sliceBound hc0 hc1, run_sliceBound hb0 hb1, run_sliceBound h.1 h.2.1], h.2.2⟩

theorem dslice_sound {t : TypeId} {x : Value} {lo hi mx : Option Value} (h : dslice P t x lo hi mx K) : ∃ v, (∀ w, (Instr.sliceAt t x lo hi mx).run P w = .ok v w) ∧ K v := by
  unfold dslice at h
  split at h
  · rename_i lo' hi' mx' h1 h2 h3
    split at h
    · rename_i hu
      split at h
      · rename_i s
        have h' : slB none s.size s.size fun m => slB hi' m s.size fun h => slB lo' h 0 fun l => K (.string (s.extract l h)) := h
        obtain ⟨l, hh, m, hr, hk⟩ := bounds_sound (P := P) (isS := false) h1 h2 h3 (by simp) h'
        obtain rfl := asI_none h3
        refine ⟨_, fun w => ?_, hk⟩
        unfold Instr.sliceAt
        rw [run_bind_ok (run_und hu)]
        simp only []
        unfold Instr.slice
        rw [run_bind_ok (run_und hu)]
        simp only [Option.isSome_none, Bool.false_eq_true, if_false]
        first
          | rw [run_bind_ok (hr w)]; rfl
          | (simp only [pure_bind]; rw [run_bind_ok (hr w)]; rfl)
      · exact h.elim
    · rename_i e hu
      split at h
      · split at h
        · exact h.elim
        · rename_i b len cap hn1 hn2 hn3
          cases hi : (P.info? e).isSome <;> simp only [hi, cond_true, cond_false] at h
          obtain ⟨l, hh, m, hr, hk⟩ := bounds_sound (P := P) (isS := true) h1 h2 h3 (by rintro ⟨rfl, hm⟩; cases mx' <;> simp_all) h
          refine ⟨_, fun w => ?_, hk⟩
          unfold Instr.sliceAt
          rw [run_bind_ok (run_und hu)]
          simp only []
          unfold Instr.slice
          rw [run_bind_ok (run_und hu)]
          simp only []
          rw [run_bind_ok (hr w)]
          simp only []
          rw [run_bind_ok (run_szT hi)]
          rfl
      · exact h.elim
    · rename_i n e hu
      split at h
      · split at h
        · exact h.elim
        · rename_i p hn1 hn2 hn3
          cases hi : (P.info? e).isSome <;> simp only [hi, cond_true, cond_false] at h
          cases p with
          | none => exact h.elim
          | some a =>
            simp only [pt] at h
            obtain ⟨l, hh, m, hr, hk⟩ := bounds_sound (P := P) (isS := false) h1 h2 h3 (by rintro ⟨rfl, hm⟩; cases mx' <;> simp_all) h
            refine ⟨_, fun w => ?_, hk⟩
            unfold Instr.sliceAt
            rw [run_bind_ok (run_und hu)]
            simp only []
            rw [run_bind_ok (a := a) (w' := w) rfl]
            rw [run_bind_ok (hr w)]
            simp only []
            rw [run_bind_ok (run_szT hi)]
            rfl
      · exact h.elim
    · exact h.elim
  · exact h.elim

theorem mapM_list {α β : Type} {f : α → Sem β} {g : α → β} (w : World) (l : List α) (h : ∀ a ∈ l, (f a).run P w = .ok (g a) w) : (l.mapM f).run P w = .ok (l.map g) w := by
  induction l with
  | nil => rfl
  | cons a l ih =>
    rw [List.mapM_cons, run_bind_ok (h a (by simp)), run_bind_ok (ih fun b hb => h b (by simp [hb]))]
    rfl
theorem mapM_array {α β : Type} {f : α → Sem β} {g : α → β} (w : World) (l : Array α) (h : ∀ a ∈ l, (f a).run P w = .ok (g a) w) : (l.mapM f).run P w = .ok (l.map g) w := by
  rw [Array.mapM_eq_mapM_toList, map_eq_pure_bind, run_bind_ok (mapM_list (g := g) w l.toList (fun a ha => h a (by simpa using ha)))]
  simp [go_sem]
  apply Array.ext' ; simp

theorem dbuild_sound {t : TypeId} {parts : List (Nat × Value)} (h : dbuild P t parts K) : ∃ v, (∀ w, (Instr.build t parts.toArray).run P w = .ok v w) ∧ K v := by
  unfold dbuild at h
  split at h
  · rename_i i hi
    split at h
    · rename_i z hz
      have hzr : ∀ w, (zeroValue t).run P w = .ok z w := fun w => by
        unfold zeroValue; rw [run_bind_ok (run_tinfo hi), hz]; rfl
      split at h
      · rename_i fs hu
        cases hall : (fs.toList.all fun f => (P.info? f.type).isSome) <;> simp only [hall, cond_true, cond_false] at h
        obtain ⟨cs, hf, hk⟩ := fillD_out (place' := fun j => (fs.map fun f => (f.offset, szT P f.type))[j]?) (fun j => by simp [Option.map_map]; rfl) parts h
        refine ⟨_, fun w => ?_, hk⟩
        unfold Instr.build
        rw [run_bind_ok (hzr w), run_bind_ok (run_und hu)]
        simp only []
        rw [run_bind_ok (mapM_array (g := fun f => (f.offset, szT P f.type)) w fs (fun f hf => by
          rw [run_bind_ok (run_szT (by simpa using List.all_eq_true.1 hall f (by simpa using hf)))]; rfl))]
        simp only [hf]
        rfl
      · rename_i n e hu
        cases hall : (P.info? e).isSome <;> simp only [hall, cond_true, cond_false] at h
        obtain ⟨cs, hf, hk⟩ := fillD_out (place' := fun j => some (j * szT P e, szT P e)) (fun j => rfl) parts h
        refine ⟨_, fun w => ?_, hk⟩
        unfold Instr.build
        rw [run_bind_ok (hzr w), run_bind_ok (run_und hu)]
        simp only []
        rw [run_bind_ok (run_szT hall)]
        simp only [hf]
        rfl
      · exact h.elim
    · exact h.elim
  · exact h.elim

theorem dblt_sound {b : Builtin} {ts : Array TypeId} {ty : TypeId} {cs : Array Bool} {vs : Array Value} (h : dblt P b ts.toList vs.toList K) : ∃ v, Gives P (builtin b ts ty cs vs) v ∧ K v := by
  obtain ⟨ts⟩ := ts
  obtain ⟨vs⟩ := vs
  unfold dblt at h
  simp only [] at h
  split at h
  · split at h
    · split at h
      · rename_i hu
        split at h
        · exact ⟨_, gives_v fun w => by unfold Builtin.len_; simp [run_bind_ok (run_und hu), goInt, go_sem], h⟩
        · exact h.elim
      · rename_i hu
        exact ⟨_, gives_v fun w => by unfold Builtin.len_; simp [run_bind_ok (run_und hu), goInt, go_sem], h⟩
      · rename_i hu
        split at h
        · exact ⟨_, gives_v fun w => by unfold Builtin.len_; simp [run_bind_ok (run_und hu), goInt, go_sem], h⟩
        · exact h.elim
      · exact h.elim
    · exact h.elim
  · split at h
    · split at h
      · rename_i hu
        split at h
        · exact ⟨_, gives_v fun w => by unfold Builtin.cap_; simp [run_bind_ok (run_und hu), goInt, go_sem], h⟩
        · exact h.elim
      · exact h.elim
    · exact h.elim
  · split at h
    · split at h
      · split at h
        · exact ⟨_, gives_v fun w => by simp [Builtin.min_, Builtin.min2, go_sem], h⟩
        · exact h.elim
      · exact h.elim
    · exact h.elim
  · split at h
    · split at h
      · split at h
        · exact ⟨_, gives_v fun w => by simp [Builtin.max_, Builtin.max2, go_sem], h⟩
        · exact h.elim
      · exact h.elim
    · exact h.elim
  · exact h.elim

set_option maxHeartbeats 1000000 in
/-- One operation that leaves the world alone. -/
theorem dpure_sound {o : Oper} (h : dpure P o ρ K) : ∃ v, Gives P (execOp ρ o) v ∧ K v := by
  obtain ⟨dst, op, type, pos, after, guard⟩ := o
  cases op <;> simp only [dpure] at h <;> try exact h.elim
  case move x => exact ⟨_, fun w => rfl, h⟩
  case assign x => exact ⟨_, fun w => rfl, h⟩
  case pick c a b =>
    obtain ⟨t, v, hc, rfl, h⟩ := dpick_sound h
    exact ⟨_, fun w => by simp [execOp, hc, asBool, go_sem], h⟩
  case nilCheck x =>
    split at h
    · rename_i p hx
      cases p with
      | none => exact h.elim
      | some a => exact ⟨_, fun w => by simp [execOp, hx], h⟩
    · rename_i f first cap hx
      exact ⟨_, fun w => by simp [execOp, hx], h⟩
    · exact h.elim
  case fieldAddr s x f =>
    split at h
    · rename_i fs hu
      split at h
      · rename_i fd hf
        cases hb : (Nat.beq (szT P fd.type) 0 || !(P.info? fd.type).isSome) <;> simp only [hb, cond_true, cond_false] at h
        simp only [Bool.or_eq_false_iff, Bool.not_eq_false'] at hb
        obtain ⟨hb0, hb1⟩ := hb
        have hb0 : szT P fd.type ≠ 0 := fun e => by rw [e] at hb0; cases hb0
        split at h
        · rename_i p hx
          cases p with
          | none => exact h.elim
          | some a =>
            refine ⟨_, gives_v fun w => ?_, h⟩
            unfold Instr.fieldAt
            rw [run_bind_ok (run_und hu)]
            simp only [hf]
            rw [hx, run_bind_ok (a := a) (w' := w) rfl]
            unfold fieldPlace
            simp only [bind_assoc]
            rw [run_bind_ok (run_szT hb1), if_neg hb0]
            rfl
        · exact h.elim
      · exact h.elim
    · exact h.elim
  case field s x f =>
    split at h
    · rename_i fs hu
      split at h
      · rename_i fd hf
        split at h
        · rename_i cs hx
          cases hb : (!(P.info? fd.type).isSome || !(P.underlying fd.type).isSome) <;> simp only [hb, cond_true, cond_false] at h
          simp only [Bool.or_eq_false_iff, Bool.not_eq_false'] at hb
          obtain ⟨hb0, hb1⟩ := hb
          cases ha : aggT P fd.type <;> simp only [ha, cond_true, cond_false] at h
          · split at h
            · rename_i v hv
              refine ⟨_, gives_v fun w => ?_, h⟩
              unfold Instr.field
              rw [run_bind_ok (run_und hu)]
              simp only [hf]
              rw [hx, run_bind_ok (a := cs) (w' := w) rfl]
              unfold part
              rw [run_bind_ok (run_aggT hb1), ha]
              simp only [Bool.false_eq_true, if_false, hv]
              rfl
            · exact h.elim
          · refine ⟨_, gives_v fun w => ?_, h⟩
            unfold Instr.field
            rw [run_bind_ok (run_und hu)]
            simp only [hf]
            rw [hx, run_bind_ok (a := cs) (w' := w) rfl]
            unfold part
            rw [run_bind_ok (run_aggT hb1), ha]
            simp only [if_true]
            rw [run_bind_ok (run_szT hb0)]
            rfl
        · exact h.elim
      · exact h.elim
    · exact h.elim
  case indexAddr t x ix =>
    split at h
    · rename_i k n hix
      split at h
      · rename_i e hu
        split at h
        · rename_i b l c hx
          cases hb : (P.info? e).isSome <;> simp only [hb, cond_true, cond_false] at h
          obtain ⟨a, rfl, h0, h1, h⟩ := h
          refine ⟨_, gives_v fun w => ?_, h⟩
          unfold Instr.indexAt
          rw [hix, run_bind_ok (a := (k, n)) (w' := w) rfl]
          simp only [bind_assoc]
          rw [run_bind_ok (run_und hu), hx]
          simp only [pure_bind]
          rw [run_bind_ok (run_und hu)]
          simp only [h0, h1, and_self, if_true, pure_bind]
          rw [run_bind_ok (run_szT hb)]
          rfl
        · exact h.elim
      · rename_i len e hu
        split at h
        · rename_i p hx
          cases hb : (P.info? e).isSome <;> simp only [hb, cond_true, cond_false] at h
          cases p with
          | none => exact h.elim
          | some a =>
            obtain ⟨h0, h1, h⟩ := h
            refine ⟨_, gives_v fun w => ?_, h⟩
            unfold Instr.indexAt
            rw [hix, run_bind_ok (a := (k, n)) (w' := w) rfl]
            simp only [bind_assoc]
            rw [run_bind_ok (run_und hu), hx]
            simp only [pure_bind, bind_assoc, sureAddr_some']
            rw [run_bind_ok (run_und hu)]
            simp only [h0, h1, and_self, if_true, pure_bind]
            rw [run_bind_ok (run_szT hb)]
            rfl
        · exact h.elim
      · exact h.elim
    · exact h.elim
  case index t x ix =>
    split at h
    · rename_i k n hix
      split at h
      · rename_i len e hu
        split at h
        · rename_i cs hx
          split at h
          · rename_i l hty
            cases hb : ((P.info? e).isSome && (P.underlying e).isSome && !(aggT P e)) <;> simp only [hb, cond_true, cond_false] at h
            simp only [Bool.and_eq_true, Bool.not_eq_true'] at hb
            obtain ⟨⟨hb1, hb2⟩, hb3⟩ := hb
            obtain ⟨v, h0, h1, hv, h⟩ := exL_out h
            refine ⟨_, gives_v fun w => ?_, h⟩
            unfold Instr.index
            rw [hix, run_bind_ok (a := (k, n)) (w' := w) rfl]
            simp only []
            rw [run_bind_ok (run_und hu), hx]
            simp only [h0, h1, and_self, if_true]
            rw [run_bind_ok (run_szT hb1)]
            unfold part
            rw [run_bind_ok (run_aggT hb2), hb3]
            simp only [Bool.false_eq_true, if_false, hv]
            rfl
          · exact h.elim
        · exact h.elim
      · rename_i hu
        split at h
        · rename_i s hx
          obtain ⟨b, h0, hb, h⟩ := h
          refine ⟨_, gives_v fun w => ?_, h⟩
          unfold Instr.index
          rw [hix, run_bind_ok (a := (k, n)) (w' := w) rfl]
          simp only []
          rw [run_bind_ok (run_und hu), hx]
          simp only [h0, if_true, hb]
          rfl
        · exact h.elim
      · exact h.elim
    · exact h.elim
  case binOp op xT x y yT =>
    obtain ⟨v, hv, h⟩ := dbin_sound h
    exact ⟨v, gives_v hv, h⟩
  case unOp op xT x =>
    split at h
    · split at h
      · rename_i hx; exact ⟨_, gives_v fun w => by rw [hx]; rfl, h⟩
      · exact h.elim
    · split at h
      · rename_i hx; exact ⟨_, gives_v fun w => by rw [hx]; rfl, h⟩
      · exact h.elim
    · split at h
      · rename_i hx; exact ⟨_, gives_v fun w => by rw [hx]; rfl, h⟩
      · exact h.elim
    · exact h.elim
  case convert src dst x =>
    split at h
    · rename_i d hs
      split at h
      · rename_i k hd
        split at h
        · rename_i k' n hx
          refine ⟨_, gives_v fun w => ?_, h⟩
          unfold convert
          rw [run_bind_ok (run_und hs), run_bind_ok (run_und hd), hx]
          cases d <;> rfl
        · exact h.elim
      · rename_i hd
        split at h
        · rename_i hs2
          rw [hs] at hs2
          obtain rfl := Option.some.inj hs2
          split at h
          · rename_i s hx
            refine ⟨_, gives_v fun w => ?_, h⟩
            unfold convert
            rw [run_bind_ok (run_und hs), run_bind_ok (run_und hd), hx]
            rfl
          · exact h.elim
        · exact h.elim
      · exact h.elim
    · exact h.elim
  case makeInterface t x =>
    split at h
    · exact h.elim
    · rename_i d hni hu
      refine ⟨_, gives_v fun w => ?_, h⟩
      unfold Instr.makeInterface
      rw [run_bind_ok (run_und hu)]
      cases d <;> first | rfl | exact (hni _ rfl).elim
    · exact h.elim
  case makeFunc fn first cap =>
    refine ⟨_, gives_v fun w => ?_, h⟩
    have e : ∀ l : Array Operand, l.map ρ = (l.toList.map ρ).toArray := fun l => by apply Array.ext'; simp
    simp only [Instr.makeFunc, e]
    rfl
  case slice t x lo hi mx =>
    obtain ⟨v, hv, h⟩ := dslice_sound h
    exact ⟨v, gives_v hv, h⟩
  case extract t ix =>
    split at h
    · rename_i vs hx
      split at h
      · rename_i v hv
        exact ⟨_, gives_v fun w => by simp [Instr.extract, hx, hv, go_sem], h⟩
      · exact h.elim
    · exact h.elim
  case build t parts =>
    obtain ⟨v, hv, h⟩ := dbuild_sound h
    refine ⟨v, gives_v fun w => ?_, h⟩
    rw [← hv w]
    congr 2
    apply Array.ext'
    simp
  case call c =>
    split at h
    · rename_i b hc
      obtain ⟨v, hv, h⟩ := dblt_sound (P := P) (ts := c.argTypes) (vs := c.args.map ρ) (ty := type) (cs := c.args.map fun | .const _ => true | _ => false) (by simpa using h)
      refine ⟨v, fun w => ?_, h⟩
      have hr : resolve ρ c type = pure { target := .builtin b c.argTypes type (c.args.map fun | .const _ => true | _ => false), args := c.args.map ρ } := by
        unfold resolve; rw [hc]; rfl
      show (do let d ← resolve ρ c type; invoke d.target d.args : Sem Next).run P w = _
      rw [hr, pure_bind]
      exact hv w
    · exact h.elim

end
end Go.Proofs.YtledchlbmilneaaDoor
