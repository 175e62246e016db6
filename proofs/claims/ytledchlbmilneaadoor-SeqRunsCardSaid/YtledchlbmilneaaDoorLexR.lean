/-
A reading of a function's code as one formula: loads, operations that change the world, and regions in whatever order.
Conditions: none; every theorem here is over any program.
-/
import Derived.Test.YtledchlbmilneaaDoorLexQ
import Derived.OrdersHeld
import Derived.Laws.MakeOwn
namespace Go.Proofs.YtledchlbmilneaaDoor
open Go
set_option linter.unusedVariables false
set_option linter.unusedSimpArgs false

/-! ## Loads -/
def ldL (l : Lf) (a : Addr) (w : World) (K : Value → Prop) : Prop := exL l fun v => w.cell? a = some v ∧ K v
def ldLs : List Lf → Addr → Nat → World → (List Value → Prop) → Prop
  | [], _, _, _, K => K []
  | l :: r, a, i, w, K => ldL l (a.add i) w fun v => ldLs r a (i + 1) w fun vs => K (v :: vs)
def heldAt (a : Addr) : Nat → List Value → List (Addr × Value)
  | _, [] => []
  | i, v :: vs => (a.add i, v) :: heldAt a (i + 1) vs
def dload (P : Program) (t : TypeId) (x : Value) (w : World) (K : List (Addr × Value) → Value → Prop) : Prop :=
  match x with
  | .pointer p => pt p fun a => match leavesT P 8 t with
    | some ls => bif aggT P t
      then (bif Nat.beq ls.length (szT P t) && (P.info? t).isSome then ldLs ls a 0 w fun vs => K (heldAt a 0 vs) (.agg vs.toArray) else False)
      else (match ls with | [l] => bif (P.underlying t).isSome then ldL l a w (fun v => K [(a, v)] v) else False | _ => False)
    | none => False
  | _ => False
def Holds (H : List (Addr × Value)) (w : World) : Prop := ∀ p ∈ H, w.cell? p.1 = some p.2

section
variable {P : Program}
theorem ldLs_out (ls : List Lf) (a : Addr) : ∀ (i : Nat) (w : World) (K : List Value → Prop), ldLs ls a i w K → ∃ vs, vs.length = ls.length ∧ Holds (heldAt a i vs) w ∧ K vs := by
  induction ls with
  | nil => intro i w K h; exact ⟨[], rfl, (by intro p hp; cases hp), h⟩
  | cons l r ih =>
    intro i w K h
    simp only [ldLs, ldL] at h
    obtain ⟨v, hv, h⟩ := exL_out h
    obtain ⟨vs, hl, hh, h⟩ := ih _ _ _ h
    refine ⟨v :: vs, by simp [hl], ?_, h⟩
    intro p hp
    simp only [heldAt, List.mem_cons] at hp
    rcases hp with rfl | hp
    · exact hv
    · exact hh p hp
theorem run_load {a : Addr} {w : World} {v : Value} (h : w.cell? a = some v) : (load a : Sem Value).run P w = .ok v w := by
  simp [load, Sem.run, h]
theorem loadCells_held (a : Addr) (w : World) : ∀ (vs : List Value) (i : Nat) (acc : Array Value), Holds (heldAt a i vs) w → (loadCellsFrom a i vs.length acc).run P w = .ok (acc ++ vs.toArray) w := by
  intro vs
  induction vs with
  | nil => intro i acc _; simp [loadCellsFrom, go_sem]
  | cons v vs ih =>
    intro i acc h
    simp only [List.length_cons, loadCellsFrom]
    rw [run_bind_ok (run_load (h (a.add i, v) (by simp [heldAt])))]
    rw [ih (i + 1) (acc.push v) (fun p hp => h p (by simp [heldAt, hp]))]
    simp
theorem dload_sound {t : TypeId} {x : Value} {w : World} {K : List (Addr × Value) → Value → Prop} (h : dload P t x w K) :
    ∃ v H, K H v ∧ Holds H w ∧ ∀ w', Holds H w' → (Instr.loadAt t x).run P w' = .ok v w' := by
  unfold dload at h
  split at h
  · rename_i p
    cases p with
    | none => exact h.elim
    | some a =>
      simp only [pt] at h
      split at h
      · rename_i ls hls
        cases ha : aggT P t <;> simp only [ha, cond_true, cond_false] at h
        · split at h
          · rename_i l
            cases hu : (P.underlying t).isSome <;> simp only [hu, cond_true, cond_false] at h
            obtain ⟨v, hv, h⟩ := exL_out h
            refine ⟨v, _, h, by intro p hp; simp only [List.mem_singleton] at hp; subst hp; exact hv, fun w' hw' => ?_⟩
            unfold Instr.loadAt
            rw [run_bind_ok (a := a) (w' := w') rfl]
            unfold loadVar
            rw [run_bind_ok (run_aggT hu), ha]
            exact run_load (hw' (a, v) (by simp))
          · exact h.elim
        · cases hb : (Nat.beq ls.length (szT P t) && (P.info? t).isSome) <;> simp only [hb, cond_true, cond_false] at h
          simp only [Bool.and_eq_true, Nat.beq_eq] at hb
          obtain ⟨vs, hl, hh, h⟩ := ldLs_out _ _ _ _ _ h
          refine ⟨_, _, h, hh, fun w' hw' => ?_⟩
          have hu : (P.underlying t).isSome = true := by unfold aggT at ha; split at ha <;> simp_all
          unfold Instr.loadAt
          rw [run_bind_ok (a := a) (w' := w') rfl]
          unfold loadVar
          rw [run_bind_ok (run_aggT hu), ha]
          simp only [if_true, bind_assoc]
          rw [run_bind_ok (run_szT hb.2)]
          have hn : szT P t = vs.length := by rw [hl, ← hb.1]
          have := loadCells_held (P := P) a w' vs 0 #[] hw'
          rw [hn]
          unfold loadCells
          rw [run_bind_ok this]
          simp [go_sem]
      · exact h.elim
  · exact h.elim
end

/-! ## What changes the world -/
def alo (cs : Array Value) (e : TypeId) (w : World) (K : Addr → World → Prop) : Prop := K ⟨w.heap.size, 0, none⟩ (w.alloc (.cells cs e))
def sto (a : Addr) (v : Value) (w : World) (K : World → Prop) : Prop := oneC v = true ∧ (∃ u, w.cell? a = some u) ∧ w.frozen? a = false ∧ K (w.setCell a v)
def stos : List Value → Addr → Nat → World → (World → Prop) → Prop
  | [], _, _, w, K => K w
  | v :: r, a, i, w, K => sto (a.add i) v w fun w' => stos r a (i + 1) w' K
def zerosOf (z : Array Value) (n : Nat) : Array Value := ((List.replicate n z.toList).flatten).toArray
/-- A call of a function value. -/
def dcv (P : Program) (E : List FuncId) (f : Value) (args : List Value) (w : World) (F : Ending → World → Prop) : Prop :=
  match f with
  | .func (.func g) first cap => bif E.contains g then Calls P g ((first.toList ++ args) ++ cap.toList).toArray w F else False
  | _ => False
def RUN (P : Program) (s : Sem Value) (ty : Ty) (w : World) (K : Value → World → Prop) : Prop :=
  exT ty fun v => ∃ w', s.run P w = .ok v w' ∧ K v w'
def RUNU (P : Program) (s : Sem Unit) (w : World) (K : World → Prop) : Prop := ∃ w', s.run P w = .ok () w' ∧ K w'

def mkS (P : Program) (e : TypeId) (l c : Int) (w : World) (K : Value → World → Prop) : Prop :=
  0 ≤ l ∧ l ≤ c ∧ (byT P e : Int) * c ≤ 140737488355328 ∧
    match P.info? e with
    | some i => match i.zero with
      | some z => bif Nat.blt 0 i.bytes && Nat.blt 0 i.size && Nat.beq i.size z.cells.size then alo (zerosOf z.cells c.toNat) e w fun a w' => K (.slice (some a) l.toNat c.toNat) w' else False
      | none => False
    | none => False

def dbuildS (P : Program) (t : TypeId) (len : Nat) (parts : List (Nat × Value)) (w : World) (K : Value → World → Prop) : Prop :=
  match P.underlying t with
  | some (.slice e) => match P.info? e with
    | some i => match i.zero with
      | some z => bif Nat.ble (len * i.size) 16777216 && Nat.blt 0 (len * i.size) && Nat.beq i.size z.cells.size
          then fillD (fun j => some (j * szT P e, szT P e, aggT P e)) (zerosOf z.cells len) parts fun cs => alo cs e w fun a w' => K (.slice (some a) len len) w'
          else False
      | none => False
    | none => False
  | _ => False

def deff (P : Program) (E : List FuncId) (o : Oper) (ρ : Operand → Value) (w : World) (K : Value → World → Prop) : Prop :=
  match o.op with
  | .alloc e => match P.info? e with
    | some i => match i.zero with
      | some z => alo z.cells e w fun a w' => K (.pointer (some a)) w'
      | none => False
    | none => False
  | .box e x => bif aggT P e
      then (match ρ x with | .agg cs => alo cs e w fun a w' => K (.pointer (some a)) w' | _ => False)
      else ocm (ρ x) (alo #[ρ x] e w fun a w' => K (.pointer (some a)) w')
  | .buildSlice t len parts => dbuildS P t len (parts.toList.map fun p => (p.1, ρ p.2)) w K
  | .store t a x => match ρ a with
    | .pointer p => pt p fun ad => bif (P.info? t).isSome then (bif aggT P t
      then (match ρ x with | .agg cs => bif Nat.beq cs.size (szT P t) then stos cs.toList ad 0 w fun w' => K undef w' else False | _ => False)
      else (bif Nat.beq 1 (szT P t) then sto (ad.add 0) (ρ x) w fun w' => K undef w' else False)) else False
    | _ => False
  | .makeSlice t l c => match P.underlying t with
    | some (.slice e) => match ρ l with
      | .int _ l => match ρ c with
        | .int _ c => mkS P e l c w K
        | _ => False
      | _ => False
    | _ => False
  | .call c => match c.callee with
    | .value f => dcv P E (ρ f) (c.args.toList.map ρ) w fun e w' => exT (tyT P o.type) fun v => e = .returned v ∧ K v w'
    | .builtin b => match b with
      | .append => RUN P (Builtin.append_ c.argTypes o.type (c.args.toList.map ρ).toArray) (.one .slc) w K
      | .copy => RUN P (Builtin.copy_ c.argTypes o.type (c.args.toList.map ρ).toArray) (.one (.int .i64)) w K
      | .clear => RUN P (Builtin.clear_ c.argTypes o.type (c.args.toList.map ρ).toArray) (tyT P o.type) w K
      | .delete => RUN P (Builtin.delete_ c.argTypes o.type (c.args.toList.map ρ).toArray) (tyT P o.type) w K
      | .len => RUN P (Builtin.len_ c.argTypes o.type (c.args.toList.map ρ).toArray) (.one (.int .i64)) w K
      | .min => RUN P (Builtin.min_ c.argTypes o.type (c.args.toList.map ρ).toArray) (tyT P o.type) w K
      | .max => RUN P (Builtin.max_ c.argTypes o.type (c.args.toList.map ρ).toArray) (tyT P o.type) w K
      | _ => False
    | _ => False
  | .binOp op xT x y _ => RUN P (do eqGuard op xT x y (ρ x) (ρ y); binOp op xT (ρ x) (ρ y)) (tyT P o.type) w K
  | .convert src dst x => RUN P (convert src dst (ρ x)) (tyT P o.type) w K
  | .index t x ix => RUN P (Instr.index t (ρ x) (ρ ix)) (tyT P o.type) w K
  | .makeMap t r => RUN P (Instr.makeMap t (r.map ρ)) (tyT P o.type) w K
  | .lookup t x ix ok => RUN P (Instr.lookup t (ρ x) (ρ ix) ok) (tyT P o.type) w K
  | .typeAssert x xT a ok => RUN P (Instr.typeAssert (ρ x) xT a ok) (tyT P o.type) w K
  | .mapUpdate t m k x => RUNU P (Instr.mapUpdate t (ρ m) (ρ k) (ρ x)) w fun w' => K undef w'
  | .mapEntry t m k => RUN P (Instr.mapEntry t (ρ m) (ρ k)) (tyT P o.type) w K
  | .entryStore t m s x => RUNU P (Instr.entryStore t (ρ m) (ρ s) (ρ x)) w fun w' => K undef w'
  | .range t x => RUN P (Instr.range t (ρ x)) (tyT P o.type) w K
  | .next it s => RUN P (Instr.next (ρ it) s o.type) (tyT P o.type) w K
  | _ => False

def enters (P : Program) (g : FuncId) : Prop := ∀ args w, (callFunc g args).run P w = .ok (.enter g args) w

section
variable {P : Program} {Q : Exit → Act → World → Prop} {next : Act → World → Prop} {a : Act} {w : World} {o : Oper} {K : Value → World → Prop}
theorem wp_of_gives {v : Value} (h : Gives P (execOp a.eval o) v) (hk : next (a.put o.dst v) w) : o.wp P a w next Q := by
  unfold Oper.wp; rw [h w]; exact hk
theorem wp_of_run {v : Value} {w' : World} (h : (execOp a.eval o).run P w = .ok (.value v) w') (hk : next (a.put o.dst v) w') : o.wp P a w next Q := by
  unfold Oper.wp; rw [h]; exact hk
theorem wp_of_skip {w' : World} (h : (execOp a.eval o).run P w = .ok .skip w') (hk : next (a.put o.dst undef) w') : o.wp P a w next Q := by
  unfold Oper.wp; rw [h]; exact hk
theorem run_v {s : Sem Value} {v : Value} {w w' : World} (h : s.run P w = .ok v w') : (do pure (.value (← s)) : Sem Next).run P w = .ok (.value v) w' := by rw [run_bind_ok h]; rfl
theorem run_u {s : Sem Unit} {w w' : World} (h : s.run P w = .ok () w') : (do s; pure .skip : Sem Next).run P w = .ok .skip w' := by rw [run_bind_ok h]; rfl
theorem RUN_out {s : Sem Value} {ty : Ty} (h : RUN P s ty w K) : ∃ v w', s.run P w = .ok v w' ∧ K v w' := by
  obtain ⟨v, w', h⟩ := exT_out h; exact ⟨v, w', h⟩
theorem run_newRow {e : TypeId} {cs : Array Value} {w : World} : (newRow e cs).run P w = .ok ⟨w.heap.size, 0, none⟩ (w.alloc (.cells cs e)) := rfl
theorem zerosOf_eq (z : Array Value) (n : Nat) : (Array.range (n * z.size)).map (fun i => z[i % z.size]!) = zerosOf z n := by
  apply Array.ext'
  simp only [zerosOf, Array.toList_map, Array.toList_range]
  induction n with
  | zero => simp
  | succ n ih =>
    rw [Nat.succ_mul, List.range_add, List.map_append, ih, List.replicate_succ', List.flatten_append]
    congr 1
    simp only [List.map_map, List.flatten_cons, List.flatten_nil, List.append_nil]
    apply List.ext_getElem
    · simp
    · intro i h1 h2
      simp only [List.length_map, List.length_range] at h1
      simp [Nat.mul_add_mod_of_lt, h1, Nat.mod_eq_of_lt h1]
theorem run_sto {a : Addr} {v : Value} {w : World} {K : World → Prop} (h : sto a v w K) : ∃ w', (store a v).run P w = .ok () w' ∧ K w' := by
  obtain ⟨h1, ⟨u, hu⟩, hf, hk⟩ := h
  refine ⟨_, ?_, hk⟩
  unfold store
  cases v <;> first | (simp [oneC] at h1; done) | simp [Sem.run, hu, hf]
theorem run_stos (vs : List Value) (a : Addr) : ∀ (i : Nat) (w : World) (K : World → Prop), stos vs a i w K → ∃ w', (storeCells a vs i).run P w = .ok () w' ∧ K w' := by
  induction vs with
  | nil => intro i w K h; exact ⟨w, rfl, h⟩
  | cons v r ih =>
    intro i w K h
    obtain ⟨w1, h1, h⟩ := run_sto (P := P) h
    obtain ⟨w2, h2, h⟩ := ih _ _ _ h
    refine ⟨w2, ?_, h⟩
    unfold storeCells
    rw [run_bind_ok h1, h2]
theorem wrap64_small {n : Int} (h0 : 0 ≤ n) (h1 : n ≤ 140737488355328) : IntKind.i64.wrap n = n := by
  rw [IntKind.wrap_i64]; omega

theorem run_makeSlice {t e : TypeId} {i : TypeInfo} {z : Value} {k k' : IntKind} {l c : Int} {w : World} (hu : P.underlying t = some (.slice e)) (hi : P.info? e = some i) (hz : i.zero = some z)
    (h0 : 0 ≤ l) (h1 : l ≤ c) (hb : (i.bytes : Int) * c ≤ 140737488355328) (hb0 : 0 < i.bytes) (hs0 : 0 < i.size) (hsz : i.size = z.cells.size) :
    (Instr.makeSlice t (.int k l) (.int k' c)).run P w = .ok (.slice (some ⟨w.heap.size, 0, none⟩) l.toNat c.toNat) (w.alloc (.cells (zerosOf z.cells c.toNat) e)) := by
  have hc : c ≤ 140737488355328 := by
    have : (1 : Int) * c ≤ (i.bytes : Int) * c := Int.mul_le_mul_of_nonneg_right (by omega) (by omega)
    omega
  unfold Instr.makeSlice
  rw [run_bind_ok (run_und hu)]
  simp only []
  rw [run_bind_ok (a := l) (w' := w) rfl, run_bind_ok (a := c) (w' := w) rfl, run_bind_ok (run_tinfo hi)]
  simp only [wrap64_small h0 (by omega : l ≤ 140737488355328), wrap64_small (by omega : 0 ≤ c) hc]
  have h2 : (decide (c < 0) || decide ((i.bytes : Int) * c > 2 ^ 48)) = false := by simp; omega
  have h3 : ¬ ((decide (c < 0) || decide ((i.bytes : Int) * c > 2 ^ 48)) = true ∨ decide (l < 0) = true) := by simp; omega
  have h4 : (decide (l < 0)) = false := by simp; omega
  have h5 : (decide (l > c)) = false := by simp; omega
  simp only [h2, h4, h5, Bool.false_or, Bool.or_false, Bool.false_eq_true, if_false]
  have hroom : ¬ (c.toNat * i.bytes > roomBytes) := by
    unfold roomBytes
    have : ((c.toNat * i.bytes : Nat) : Int) ≤ 140737488355328 := by
      rw [Int.natCast_mul, Int.toNat_of_nonneg (by omega), Int.mul_comm]; exact hb
    omega
  simp only [askRoom, if_neg hroom, pure_bind]
  have hsi : (P.info? e).isSome = true := by simp [hi]
  have hsz' : szT P e = i.size := by unfold szT; rw [hi]
  rw [run_bind_ok (run_szT hsi), hsz']
  have hzr : ∀ w, (zeroValue e).run P w = .ok z w := fun w => by
    unfold zeroValue; rw [run_bind_ok (run_tinfo hi), hz]; rfl
  by_cases hn : c.toNat * i.size = 0
  · have hc0 : c.toNat = 0 := by rcases Nat.mul_eq_zero.1 hn with h | h <;> omega
    simp only [hc0, Nat.zero_mul, if_true, pure_bind]
    rw [run_bind_ok run_newRow]
    have hz0 : zerosOf z.cells 0 = #[] := rfl
    rw [hz0]
    simp [go_sem]
  · rw [if_neg hn, run_bind_ok (hzr w)]
    rw [run_bind_ok run_newRow, hsz, zerosOf_eq]
    rfl

theorem run_buildSlice {t e : TypeId} {i : TypeInfo} {z : Value} {len : Nat} {parts : List (Nat × Value)} {cs : Array Value} {w : World} (hu : P.underlying t = some (.slice e)) (hi : P.info? e = some i) (hz : i.zero = some z)
    (h1 : len * i.size ≤ 16777216) (h0 : 0 < len * i.size) (hsz : i.size = z.cells.size) (hf : Instr.fill (fun j => some (j * szT P e, szT P e)) (zerosOf z.cells len) parts = some cs) :
    (Instr.buildSlice t len parts.toArray).run P w = .ok (.slice (some ⟨w.heap.size, 0, none⟩) len len) (w.alloc (.cells cs e)) := by
  have hsi : (P.info? e).isSome = true := by simp [hi]
  have hsz' : szT P e = i.size := by unfold szT; rw [hi]
  have hzr : ∀ w, (zeroValue e).run P w = .ok z w := fun w => by
    unfold zeroValue; rw [run_bind_ok (run_tinfo hi), hz]; rfl
  unfold Instr.buildSlice
  rw [run_bind_ok (run_und hu)]
  simp only []
  rw [run_bind_ok (run_szT hsi), hsz', if_neg (by omega)]
  simp only [pure_bind]
  rw [if_neg (by omega), run_bind_ok (hzr w)]
  have hz2 : (Array.range (len * i.size)).map (fun j => z.cells[j % z.cells.size]!) = zerosOf z.cells len := by rw [hsz, zerosOf_eq]
  rw [hz2]
  rw [hsz'] at hf
  simp only [hf]
  rw [run_bind_ok run_newRow]
  rfl
set_option maxHeartbeats 1000000 in
theorem deff_sound {E : List FuncId} (hE : ∀ g ∈ E, enters P g) (h : deff P E o a.eval w K) (hk : ∀ v w', K v w' → next (a.put o.dst v) w') : o.wp P a w next Q := by
  obtain ⟨dst, op, type, pos, after, guard⟩ := o
  cases op <;> simp only [deff] at h <;> try exact h.elim
  case alloc e =>
    split at h
    · rename_i i hi
      split at h
      · rename_i z hz
        refine wp_of_run (run_v ?_) (hk _ _ h)
        unfold Instr.alloc
        have hzr : ∀ w, (zeroValue e).run P w = .ok z w := fun w => by
          unfold zeroValue; rw [run_bind_ok (run_tinfo hi), hz]; rfl
        rw [run_bind_ok (hzr w)]
        rfl
      · exact h.elim
    · exact h.elim
  case box e x =>
    cases ha : aggT P e <;> simp only [ha, cond_true, cond_false] at h
    · obtain ⟨h, hc, _⟩ := ocm_out h
      refine wp_of_run (run_v ?_) (hk _ _ h)
      unfold Instr.box newVar
      rw [hc]; rfl
    · split at h
      · rename_i cs hx
        refine wp_of_run (run_v ?_) (hk _ _ h)
        unfold Instr.box newVar
        rw [hx]; rfl
      · exact h.elim
  case buildSlice t len parts =>
    unfold dbuildS at h
    split at h
    · rename_i e hu
      split at h
      · rename_i i hi
        split at h
        · rename_i z hz
          cases hb : (Nat.ble (len * i.size) 16777216 && Nat.blt 0 (len * i.size) && Nat.beq i.size z.cells.size) <;> simp only [hb, cond_true, cond_false] at h
          simp only [Bool.and_eq_true, Nat.ble_eq, Nat.blt_eq, Nat.beq_eq] at hb
          obtain ⟨⟨hb1, hb2⟩, hb3⟩ := hb
          obtain ⟨cs, hf, h⟩ := fillD_out (place' := fun j => some (j * szT P e, szT P e)) (fun j => rfl) _ h
          refine wp_of_run (run_v ?_) (hk _ _ h)
          have := run_buildSlice (w := w) hu hi hz hb1 hb2 hb3 hf
          rw [← this]
          congr 2
          apply Array.ext'
          simp
        · exact h.elim
      · exact h.elim
    · exact h.elim
  case store t ad x =>
    split at h
    · rename_i p hp
      cases p with
      | none => exact h.elim
      | some b =>
        simp only [pt] at h
        cases hi : (P.info? t).isSome <;> simp only [hi, cond_true, cond_false] at h
        have hst : ∀ cs : List Value, (Act.eval a x).cells = cs.toArray → cs.length = szT P t → ∀ w', (storeCells b cs).run P w = .ok () w' → (Instr.storeAt t (Act.eval a ad) (Act.eval a x)).run P w = .ok () w' := by
          intro cs hcs hl w' hr
          unfold Instr.storeAt
          rw [hp, run_bind_ok (a := b) (w' := w) rfl]
          unfold storeVar
          rw [run_bind_ok (run_szT hi), hcs]
          have : ¬ (cs.toArray.size ≠ szT P t) := by simp [hl]
          rw [if_neg this]
          exact hr
        cases ha : aggT P t <;> simp only [ha, cond_true, cond_false] at h
        · cases hb : Nat.beq 1 (szT P t) <;> simp only [hb, cond_true, cond_false] at h
          rw [Nat.beq_eq] at hb
          have hoc : oneC (Act.eval a x) = true := h.1
          obtain ⟨w', hr, h⟩ := run_stos (P := P) [Act.eval a x] b 0 w (fun w' => K undef w') h
          refine wp_of_skip (run_u (hst [Act.eval a x] ?_ hb w' hr)) (hk _ _ h)
          cases hv : Act.eval a x <;> simp_all [Value.cells, oneC]
        · split at h
          · rename_i cs hx
            cases hb : Nat.beq cs.size (szT P t) <;> simp only [hb, cond_true, cond_false] at h
            rw [Nat.beq_eq] at hb
            obtain ⟨w', hr, h⟩ := run_stos (P := P) _ _ _ _ _ h
            exact wp_of_skip (run_u (hst cs.toList (by rw [hx]; simp [Value.cells]) (by simpa using hb) w' hr)) (hk _ _ h)
          · exact h.elim
    · exact h.elim
  case makeSlice t l c =>
    split at h
    · rename_i e hu
      split at h
      · rename_i kl l' hl
        split at h
        · rename_i kc c' hc
          obtain ⟨h0, h1, hb, h⟩ := h
          split at h
          · rename_i i hi
            split at h
            · rename_i z hz
              cases hg : (Nat.blt 0 i.bytes && Nat.blt 0 i.size && Nat.beq i.size z.cells.size) <;> simp only [hg, cond_true, cond_false] at h
              simp only [Bool.and_eq_true, Nat.blt_eq, Nat.beq_eq] at hg
              obtain ⟨⟨hg1, hg2⟩, hg3⟩ := hg
              refine wp_of_run (run_v ?_) (hk _ _ h)
              rw [hl, hc]
              exact run_makeSlice hu hi hz h0 h1 (by unfold byT at hb; rw [hi] at hb; exact hb) hg1 hg2 hg3
            · exact h.elim
          · exact h.elim
        · exact h.elim
      · exact h.elim
    · exact h.elim
  case call c =>
    have hcall : ∀ (d : Deferred), resolve a.eval c type = pure d → ∀ r, (invoke d.target d.args).run P w = r → (execOp a.eval { dst, op := .call c, type, pos, after, guard }).run P w = r := by
      intro d hd r hr
      show (do let d ← resolve a.eval c type; invoke d.target d.args : Sem Next).run P w = r
      rw [hd, pure_bind]; exact hr
    have hargs : (c.args.toList.map a.eval).toArray = c.args.map a.eval := by apply Array.ext'; simp
    have hblt : ∀ (b : Builtin) (s : Sem Value) (ty : Ty), c.callee = .builtin b → (builtin b c.argTypes type (c.args.map fun | .const _ => true | _ => false) (c.args.map a.eval) = (do pure (.value (← s)))) → RUN P s ty w K → Oper.wp P { dst, op := .call c, type, pos, after, guard } a w next Q := by
      intro b s ty hc hs hr
      obtain ⟨v, w', hr, h⟩ := RUN_out hr
      refine wp_of_run (hcall { target := .builtin b c.argTypes type (c.args.map fun | .const _ => true | _ => false), args := c.args.map a.eval } (by unfold resolve; rw [hc]; rfl) _ ?_) (hk _ _ h)
      show (builtin b c.argTypes type _ (c.args.map a.eval)).run P w = _
      rw [hs]; exact run_v hr
    split at h
    · rename_i f hc
      unfold dcv at h
      split at h
      · rename_i g first cap hf
        cases hg : E.contains g <;> simp only [hg, cond_true, cond_false] at h
        have hgE : g ∈ E := by simpa using hg
        unfold Oper.wp
        rw [hcall { target := .fn (.func g) cap, args := first ++ c.args.map a.eval } (by unfold resolve; rw [hc]; simp only [hf]; rfl) _ rfl]
        have hi : (invoke (.fn (.func g) cap) (first ++ c.args.map a.eval)).run P w = .ok (.enter g (((first.toList ++ c.args.toList.map a.eval) ++ cap.toList).toArray)) w := by
          show (callFunc g ((first ++ c.args.map a.eval) ++ cap)).run P w = _
          rw [hE g hgE]
          congr 2
          apply Array.ext'
          simp
        rw [hi]
        refine Calls.mono h fun e w' he => ?_
        obtain ⟨v, rfl, hv⟩ := exT_out he
        exact hk _ _ hv
      · exact h.elim
    · rename_i b hc
      split at h
      · exact hblt _ _ _ hc (by rw [← hargs]; rfl) h
      · exact hblt _ _ _ hc (by rw [← hargs]; rfl) h
      · exact hblt _ _ _ hc (by rw [← hargs]; rfl) h
      · exact hblt _ _ _ hc (by rw [← hargs]; rfl) h
      · exact hblt _ _ _ hc (by rw [← hargs]; rfl) h
      · exact hblt _ _ _ hc (by rw [← hargs]; rfl) h
      · exact hblt _ _ _ hc (by rw [← hargs]; rfl) h
      · exact h.elim
    · exact h.elim
  case mapUpdate => obtain ⟨w', hr, h⟩ := h; exact wp_of_skip (run_u hr) (hk _ _ h)
  case entryStore => obtain ⟨w', hr, h⟩ := h; exact wp_of_skip (run_u hr) (hk _ _ h)
  all_goals
    obtain ⟨v, w', hr, h⟩ := RUN_out h
    exact wp_of_run (run_v hr) (hk _ _ h)

end
end Go.Proofs.YtledchlbmilneaaDoor
