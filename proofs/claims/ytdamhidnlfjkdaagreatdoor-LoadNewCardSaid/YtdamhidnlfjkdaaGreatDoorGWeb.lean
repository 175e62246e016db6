/-
Faces and ties, in plain mathematics: the links of faces that hang together as chains, and of ties; what is reached by links.
Conditions: those that each theorem states.
-/
import Derived.Test.YtdamhidnlfjkdaaGreatDoorGCutD
import Derived.Test.YtdamhidnlfjkdaaGreatDoorGCutE
import Derived.Test.YtdamhidnlfjkdaaGreatDoorLawCA
import Derived.Test.YtdamhidnlfjkdaaGreatDoorGRing
import Derived.Test.YtdamhidnlfjkdaaGreatDoorShWeb
import Derived.Laws.StructEq
import Derived.ChangeKeysEq
namespace Go.Proofs.YtdamhidnlfjkdaaGreatDoor
open Go
set_option linter.unusedVariables false
set_option linter.unusedSimpArgs false
namespace Web
open Go.Proofs.YtdamhidnlfjkdaaGreatDoor.Seq Go.Proofs.YtdamhidnlfjkdaaGreatDoor.Cut
/-- What is reached by links. -/
inductive RT (E : Nat → Nat → Prop) (a : Nat) : Nat → Prop
  | refl : RT E a a
  | step {b c : Nat} : RT E a b → E b c → RT E a c
section
variable {E E' : Nat → Nat → Prop} {a b c x y z n : Nat} {l A B : List Nat} {q q' : List (List Nat)}
theorem RT.one (h : E a b) : RT E a b := .step .refl h
theorem RT.trans (h : RT E a b) (k : RT E b c) : RT E a c := by
  induction k with
  | refl => exact h
  | step _ e ih => exact ih.step e
theorem RT.symm (hs : ∀ x y, E x y → E y x) (h : RT E a b) : RT E b a := by
  induction h with
  | refl => exact .refl
  | step _ e ih => exact (RT.one (hs _ _ e)).trans ih
theorem RT.bind (k : ∀ x y, E x y → RT E' x y) (h : RT E a b) : RT E' a b := by
  induction h with
  | refl => exact .refl
  | step _ e ih => exact ih.trans (k _ _ e)
theorem RT.mono (k : ∀ x y, E x y → E' x y) (h : RT E a b) : RT E' a b := h.bind fun x y e => .one (k x y e)
theorem RT.way (h : RT E a b) : ∃ l, Cut.Way E a b l := by
  induction h with
  | refl => exact ⟨[a], rfl, rfl, by simp, fun y hy => by simp at hy, trivial⟩
  | @step b c _ e ih =>
    obtain ⟨l, h1, h2, h3, h4⟩ := ih
    by_cases hc : c ∈ l
    · obtain ⟨p, s, rfl⟩ := List.append_of_mem hc
      have e1 : p ++ c :: s = (p ++ [c]) ++ s := by simp
      rw [e1] at h1 h3 h4
      refine ⟨p ++ [c], ?_, by simp, (List.nodup_append.1 h3).1, (Lk.append.1 h4).1⟩
      rw [List.head?_append] at h1
      cases p <;> simpa using h1
    · refine ⟨l ++ [c], ?_, by simp, ?_, ?_⟩
      · rw [List.head?_append, h1]; rfl
      · rw [List.nodup_append]
        exact ⟨h3, by simp, fun x hx y hy h0 => hc (by simp at hy; rw [← hy, ← h0]; exact hx)⟩
      · rw [Lk.append]
        refine ⟨h4, ⟨fun y hy => by simp at hy, trivial⟩, fun x y hx hy => ?_⟩
        rw [h2] at hx
        simp at hx hy
        subst hx hy
        exact e
/-- Two neighbours of a list. -/
def Nx : List Nat → Nat → Nat → Prop
  | [], _, _ => False
  | a :: l, x, y => (a = x ∧ l.head? = some y) ∨ Nx l x y
theorem Nx.append : ∀ {A B : List Nat}, Nx (A ++ B) x y ↔ Nx A x y ∨ Nx B x y ∨ (A.getLast? = some x ∧ B.head? = some y)
  | [], B => by simp [Nx]
  | [a], B => by
    simp only [List.singleton_append, Nx, List.getLast?_singleton, List.head?_nil, Option.some.injEq]
    constructor
    · rintro (h | h)
      · exact .inr (.inr h)
      · exact .inr (.inl h)
    · rintro ((h | h) | h | h)
      · cases h.2
      · exact h.elim
      · exact .inr h
      · exact .inl h
  | a :: b :: A, B => by
    have ih := Nx.append (A := b :: A) (B := B)
    simp only [List.cons_append] at ih ⊢
    rw [Nx, ih]
    conv => rhs; rw [Nx]
    simp only [List.head?_cons, List.getLast?_cons_cons]
    constructor
    · rintro (h | h | h | h)
      · exact .inl (.inl h)
      · exact .inl (.inr h)
      · exact .inr (.inl h)
      · exact .inr (.inr h)
    · rintro ((h | h) | h | h)
      · exact .inl h
      · exact .inr (.inl h)
      · exact .inr (.inr (.inl h))
      · exact .inr (.inr (.inr h))
theorem Nx.mem : ∀ {l : List Nat}, Nx l x y → x ∈ l ∧ y ∈ l
  | a :: l, .inl h => ⟨by rw [h.1]; simp, List.mem_cons_of_mem _ (List.mem_of_head? h.2)⟩
  | a :: l, .inr h => ⟨List.mem_cons_of_mem _ (Nx.mem h).1, List.mem_cons_of_mem _ (Nx.mem h).2⟩
/-- The links of faces. -/
def EQ (q : List (List Nat)) (x y : Nat) : Prop := ∃ A ∈ q, Nx A x y ∨ Nx A y x
theorem EQ.symm (h : EQ q x y) : EQ q y x := by obtain ⟨A, h1, h2⟩ := h; exact ⟨A, h1, h2.symm⟩
theorem EQ.perm (p : q.Perm q') (h : EQ q x y) : EQ q' x y := by obtain ⟨A, h1, h2⟩ := h; exact ⟨A, p.mem_iff.1 h1, h2⟩
/-- A tie's links: its node n+e lies between its ends. -/
def TL (D : Nat → Option (Nat × Nat)) (n x y : Nat) : Prop := ∃ e a b, D e = some (a, b) ∧ ((y = n + e ∧ (x = a ∨ x = b)) ∨ (x = n + e ∧ (y = a ∨ y = b)))
/-- All links: of faces and of ties. -/
def EW (q : List (List Nat)) (D : Nat → Option (Nat × Nat)) (n x y : Nat) : Prop := EQ q x y ∨ TL D n x y
section
variable {D : Nat → Option (Nat × Nat)}
theorem TL.symm (h : TL D n x y) : TL D n y x := by
  obtain ⟨e, a, b, h1, h2⟩ := h
  exact ⟨e, a, b, h1, h2.symm⟩
theorem EW.symm (h : EW q D n x y) : EW q D n y x := h.imp EQ.symm TL.symm
end
end
section
variable {E E' : Nat → Nat → Prop} {a b c x y z n p : Nat} {l A B : List Nat} {q q' : List (List Nat)} {D : Nat → Option (Nat × Nat)}
theorem ew_perm (hp : q.Perm q') : EW q D n x y ↔ EW q' D n x y := or_congr ⟨EQ.perm hp, EQ.perm hp.symm⟩ Iff.rfl
end
end Web
end Go.Proofs.YtdamhidnlfjkdaaGreatDoor
/-
The web's record: what stands in it, and its small functions.
Conditions: those that each theorem states.
-/
namespace Go.Proofs.YtdamhidnlfjkdaaGreatDoor
open Go Go.RowKit
set_option linter.unusedVariables false
set_option linter.unusedSimpArgs false
namespace Web
open Go.Proofs.YtdamhidnlfjkdaaGreatDoor.Seq Go.Proofs.YtdamhidnlfjkdaaGreatDoor.Cut
/-- The cells of the ties' ends. -/
def encT : Option (Nat × Nat) → List Value
  | some (a, b) => [Value.int .i32 a, Value.int .i32 b]
  | none => [Value.int .i32 (-1), Value.int .i32 (-1)]
def endsOf (D : Nat → Option (Nat × Nat)) (t : Nat) : List Value := recs (fun e => encT (D e)) t
/-- A web at block W: its cycles (R, F, L), its forest (CF, CL), its ties' ends (EB). -/
structure WB (h : Array Obj) (W R F L CF CL EB n t : Nat) (q : List (List Nat)) (D : Nat → Option (Nat × Nat)) (key : Nat → Int) : Prop where
  r : Row h W T_web_Web [.pointer (some ⟨R, 0, none⟩), .pointer (some ⟨CF, 0, none⟩), .int .i64 n, .slice (some ⟨EB, 0, none⟩) t t]
  e : Row h EB T__2int32 (endsOf D t)
  a : AR h R F L n (fun _ => 0) q
  f : ∃ v, AE h CF CL (n + t) v (EW q D n) ∧ (∀ x, x < n → v x = 9223372036854775807) ∧ ∀ e a b, D e = some (a, b) → v (n + e) = key e
  d : ∀ e a b, D e = some (a, b) → e < t ∧ a < n ∧ b < n ∧ a ≠ b ∧ key e < 9223372036854775807
  nW : W ≠ EB ∧ W ≠ L ∧ W ≠ CL
  nE : EB ≠ L ∧ EB ≠ CL ∧ EB ≠ R ∧ EB ≠ F ∧ EB ≠ CF
  nL : L ≠ CL ∧ L ≠ CF ∧ CL ≠ R ∧ CL ≠ F
  sz : n ≤ 4194304 ∧ t ≤ 1048576 ∧ 1 ≤ n
/-- A web stands, and since then nothing else was changed. -/
structure WS (w₀ w : World) (W R F L CF CL EB n t : Nat) (q : List (List Nat)) (D : Nat → Option (Nat × Nat)) (key : Nat → Int) : Prop where
  c : Chg (fun k => k = L ∨ k = CL ∨ k = EB) w₀ w
  a : WB w.heap W R F L CF CL EB n t q D key
section
variable {w₀ w w' w'' : World} {W R F L CF CL EB n t a b x e : Nat} {q q' : List (List Nat)} {D D' : Nat → Option (Nat × Nat)} {key key' : Nat → Int} {v v' : Nat → Int} {E E' : Nat → Nat → Prop} {A B pre post pra poa prb pob : List Nat}
theorem WS.trans (h : WS w₀ w W R F L CF CL EB n t q D key) (k : WS w w' W R F L CF CL EB n t q' D' key') : WS w₀ w' W R F L CF CL EB n t q' D' key' := ⟨h.c.trans k.c, k.a⟩
theorem WB.start (h : WB w.heap W R F L CF CL EB n t q D key) : WS w w W R F L CF CL EB n t q D key := ⟨Chg.refl _ _, h⟩
theorem WB.perm {h : Array Obj} (k : WB h W R F L CF CL EB n t q D key) (p : q.Perm q') : WB h W R F L CF CL EB n t q' D key := by
  obtain ⟨v, f, hv⟩ := k.f
  exact ⟨k.r, k.e, k.a.perm p, ⟨v, f.congr fun x y => ew_perm p, hv⟩, k.d, k.nW, k.nE, k.nL, k.sz⟩
theorem WS.perm (h : WS w₀ w W R F L CF CL EB n t q D key) (p : q.Perm q') : WS w₀ w W R F L CF CL EB n t q' D key := ⟨h.c, h.a.perm p⟩
theorem WB.keep {S : Nat → Prop} (h : WB w.heap W R F L CF CL EB n t q D key) (c : Chg S w w') (hS : ∀ k, S k → k ≠ W ∧ k ≠ R ∧ k ≠ F ∧ k ≠ L ∧ k ≠ CF ∧ k ≠ CL ∧ k ≠ EB) : WB w'.heap W R F L CF CL EB n t q D key := by
  obtain ⟨v, f, hv⟩ := h.f
  exact ⟨c.row (fun s => (hS _ s).1 rfl) h.r, c.row (fun s => (hS _ s).2.2.2.2.2.2 rfl) h.e, h.a.keep c (fun s => (hS _ s).2.1 rfl) (fun s => (hS _ s).2.2.1 rfl) (fun s => (hS _ s).2.2.2.1 rfl),
    ⟨v, f.keep c (fun s => (hS _ s).2.2.2.2.1 rfl) (fun s => (hS _ s).2.2.2.2.2.1 rfl), hv⟩, h.d, h.nW, h.nE, h.nL, h.sz⟩
theorem WB.nob (h : WB w.heap W R F L CF CL EB n t q D key) (c : Chg Nobody w w') : WB w'.heap W R F L CF CL EB n t q D key := h.keep c fun _ h => h.elim
theorem WB.nodup {h : Array Obj} (k : WB h W R F L CF CL EB n t q D key) : q.flatten.Nodup ∧ (∀ x ∈ q.flatten, x < n) ∧ (∀ A ∈ q, A ≠ []) ∧ (∀ x, x < n → ∃ A ∈ q, x ∈ A) := by
  obtain ⟨h1, h2, h3, _, h5, h6⟩ := k.a.a.nodup
  exact ⟨h1, fun x hx => by obtain ⟨A, hA, hx⟩ := List.mem_flatten.1 hx; exact h2 A hA x hx, h3, h6⟩
/-- The parts of a web, its cycles and its forest for themselves: they need not fit. -/
structure WP (h : Array Obj) (W R F L CF CL EB n t : Nat) (D : Nat → Option (Nat × Nat)) (key : Nat → Int) (q : List (List Nat)) (v : Nat → Int) (E : Nat → Nat → Prop) : Prop where
  r : Row h W T_web_Web [.pointer (some ⟨R, 0, none⟩), .pointer (some ⟨CF, 0, none⟩), .int .i64 n, .slice (some ⟨EB, 0, none⟩) t t]
  e : Row h EB T__2int32 (endsOf D t)
  a : AR h R F L n (fun _ => 0) q
  f : AE h CF CL (n + t) v E
  nW : W ≠ EB ∧ W ≠ L ∧ W ≠ CL
  nE : EB ≠ L ∧ EB ≠ CL ∧ EB ≠ R ∧ EB ≠ F ∧ EB ≠ CF
  nL : L ≠ CL ∧ L ≠ CF ∧ CL ≠ R ∧ CL ≠ F
structure WQ (w₀ w : World) (W R F L CF CL EB n t : Nat) (D : Nat → Option (Nat × Nat)) (key : Nat → Int) (q : List (List Nat)) (v : Nat → Int) (E : Nat → Nat → Prop) : Prop where
  c : Chg (fun k => k = L ∨ k = CL ∨ k = EB) w₀ w
  p : WP w.heap W R F L CF CL EB n t D key q v E
theorem WQ.rs (h : WQ w₀ w W R F L CF CL EB n t D key q v E) (k : RS w w' R F L n (fun _ => 0) q') : WQ w₀ w' W R F L CF CL EB n t D key q' v E :=
  ⟨h.c.trans (k.chg.mono fun i _ e => .inl e), k.chg.row h.p.nW.2.1 h.p.r, k.chg.row h.p.nE.1 h.p.e, k.ar, h.p.f.keep k.chg (fun e => h.p.nL.2.1 e.symm) (fun e => h.p.nL.1 e.symm), h.p.nW, h.p.nE, h.p.nL⟩
theorem WQ.ce (h : WQ w₀ w W R F L CF CL EB n t D key q v E) (k : CE w w' CF CL (n + t) v' E') : WQ w₀ w' W R F L CF CL EB n t D key q v' E' :=
  ⟨h.c.trans (k.c.mono fun i _ e => .inr (.inl e)), k.c.row h.p.nW.2.2 h.p.r, k.c.row h.p.nE.2.1 h.p.e, h.p.a.keep k.c (fun e => h.p.nL.2.2.1 e.symm) (fun e => h.p.nL.2.2.2 e.symm) h.p.nL.1, k.a, h.p.nW, h.p.nE, h.p.nL⟩
theorem WQ.drew (h : WQ w₀ w W R F L CF CL EB n t D key q v E) : WQ w₀ w.drew W R F L CF CL EB n t D key q v E := ⟨h.c.drew, h.p⟩
theorem WQ.perm (h : WQ w₀ w W R F L CF CL EB n t D key q v E) (p : q.Perm q') : WQ w₀ w W R F L CF CL EB n t D key q' v E := ⟨h.c, h.p.r, h.p.e, h.p.a.perm p, h.p.f, h.p.nW, h.p.nE, h.p.nL⟩
end
end Web
end Go.Proofs.YtdamhidnlfjkdaaGreatDoor
/-
The web's calls that change faces: a face's chain turned, split, merged.
Conditions: those that each theorem states.
-/
namespace Go.Proofs.YtdamhidnlfjkdaaGreatDoor
open Go Go.RowKit
set_option linter.unusedVariables false
set_option linter.unusedSimpArgs false
namespace Web
open Go.Proofs.YtdamhidnlfjkdaaGreatDoor.Seq Go.Proofs.YtdamhidnlfjkdaaGreatDoor.Cut
section
variable {w₀ w w' w'' : World} {W R F L CF CL EB n t a b x e : Nat} {q q' : List (List Nat)} {D D' : Nat → Option (Nat × Nat)} {key key' : Nat → Int} {v v' : Nat → Int} {E E' : Nat → Nat → Prop} {A B pre post pra poa prb pob : List Nat}
end
end Web
end Go.Proofs.YtdamhidnlfjkdaaGreatDoor
/-
The web's calls that tie and untie, and those that end by an error; making a web; a web that is none.
Conditions: those that each theorem states.
-/
namespace Go.Proofs.YtdamhidnlfjkdaaGreatDoor
open Go Go.RowKit
set_option linter.unusedVariables false
set_option linter.unusedSimpArgs false
namespace Web
open Go.Proofs.YtdamhidnlfjkdaaGreatDoor.Seq Go.Proofs.YtdamhidnlfjkdaaGreatDoor.Cut
section
variable {w₀ w w' w'' : World} {W R F L CF CL EB n t a b x e : Nat} {q q' : List (List Nat)} {D D' : Nat → Option (Nat × Nat)} {key key' : Nat → Int} {v v' : Nat → Int} {E E' : Nat → Nat → Prop} {A B pre post pra poa prb pob : List Nat}
/-! ## Ties -/
theorem WQ.eb {es : List Value} (h : WQ w₀ w W R F L CF CL EB n t D key q v E) (c : Chg (· = EB) w w') (hr : Row w'.heap EB T__2int32 (endsOf D' t)) : WQ w₀ w' W R F L CF CL EB n t D' key' q v E :=
  ⟨h.c.trans (c.mono fun i _ e => .inr (.inr e)), c.row h.p.nW.1 h.p.r, hr, h.p.a.keep c (fun e => h.p.nE.2.2.1 e.symm) (fun e => h.p.nE.2.2.2.1 e.symm) (fun e => h.p.nE.1 e.symm),
    h.p.f.keep c (fun e => h.p.nE.2.2.2.2 e.symm) (fun e => h.p.nE.2.1 e.symm), h.p.nW, h.p.nE, h.p.nL⟩
/-! ## Making -/
theorem ew_ones {x y : Nat} : ¬ EW (ones n) (fun _ => none) n x y := by
  rintro (⟨A, hA, h⟩ | ⟨e, a, b, h, _⟩)
  · unfold ones at hA
    obtain ⟨z, _, rfl⟩ := List.mem_map.1 hA
    simp [Nx] at h
  · cases h
theorem w_New (h1 : 1 ≤ n) (h2 : n ≤ 4194304) (h3 : 1 ≤ t) (h4 : t ≤ 1048576) : Calls Pg fn_web_New #[.int .i64 n, .int .i64 t] w fun r w' => ∃ W R F L CF CL EB, r = .returned (.tuple #[.pointer (some ⟨W, 0, none⟩), errV 0]) ∧ Chg Nobody w w' ∧
    (w.heap.size ≤ W ∧ w.heap.size ≤ R ∧ w.heap.size ≤ F ∧ w.heap.size ≤ L ∧ w.heap.size ≤ CF ∧ w.heap.size ≤ CL ∧ w.heap.size ≤ EB) ∧ WB w'.heap W R F L CF CL EB n t (ones n) (fun _ => none) (fun _ => 0) := by
  refine (calls_web_New _ _ _ (fun v' w' => ∃ W R F L CF CL EB, v' = .tuple #[.pointer (some ⟨W, 0, none⟩), errV 0] ∧ Chg Nobody w w' ∧
    (w.heap.size ≤ W ∧ w.heap.size ≤ R ∧ w.heap.size ≤ F ∧ w.heap.size ≤ L ∧ w.heap.size ≤ CF ∧ w.heap.size ≤ CL ∧ w.heap.size ≤ EB) ∧ WB w'.heap W R F L CF CL EB n t (ones n) (fun _ => none) (fun _ => 0)) ?_).mono (by rintro e w' ⟨v, rfl, a, b, c, d, e, f, g, rfl, k⟩; exact ⟨a, b, c, d, e, f, g, rfl, k⟩)
  unfold sh_web_New
  refine ⟨fun _ w' => w' = w, ?_, ?_⟩
  · refine bif_i (fun h => ?_) (fun _ => bif_i (fun h => ?_) (fun _ => bif_i (fun h => ?_) (fun _ => bif_i (fun h => ?_) (fun _ => rfl)))) <;> simp only [b1s] at h <;> omega
  rintro _ w3 rfl
  refine (rg_New h1 (by omega)).mono ?_
  rintro r w6 ⟨R, F, L, rfl, hc1, hR, hF, hL, ha⟩
  refine ⟨_, _, rfl, err_i (fun e => absurd rfl e) (fun _ => ?_)⟩
  rw [wrap64_in (x := (n : Int) + t) (by omega) (by omega), show (n : Int) + t = ((n + t : Nat) : Int) by omega]
  refine (Cut.c_New (n := n + t) (by omega) (by omega)).mono ?_
  rintro r w10 ⟨CF, CL, rfl, hc2, hCF, hCL, hf⟩
  refine ⟨_, _, rfl, err_i (fun e => absurd rfl e) (fun _ => ⟨by omega, by omega, by omega, ?_⟩)⟩
  have ett : Int.toNat (t : Int) = t := rfl
  rw [ett]
  have l5 := ha.a.lt
  have l6 := ha.r.lt
  replace ha := ha.keep hc2 (fun h => h) (fun h => h) (fun h => h)
  have s1 := hc1.size
  have s2 := hc2.size
  have l1 := ha.a.lt
  have l2 := ha.r.lt
  have l3 := hf.lt
  refine alo_r fun hEB => alo_r fun hW => ?_
  have hch1 : Chg Nobody w10 (w10.alloc (.cells (zerosOf #[.int .i32 0, .int .i32 0] t) T__2int32)) := (Chg.refl _ _).alloc _
  have hs1 : (w10.alloc (.cells (zerosOf #[.int .i32 0, .int .i32 0] t) T__2int32)).heap.size = w10.heap.size + 1 := by show (w10.heap.push _).size = _; simp
  rw [hs1] at hW ⊢
  rw [zerosOf_recs] at hEB
  generalize w10.alloc (.cells (zerosOf #[.int .i32 0, .int .i32 0] t) T__2int32) = w13 at *
  have hch2 : Chg Nobody w13 (w13.alloc (.cells #[.pointer (some ⟨R, 0, none⟩), .pointer (some ⟨CF, 0, none⟩), .int .i64 n, .slice (some ⟨w10.heap.size, 0, none⟩) t t] T_web_Web)) := (Chg.refl _ _).alloc _
  have hEB := hch2.row (fun h => h) hEB
  have ha := ha.keep (hch1.trans hch2) (fun h => h) (fun h => h) (fun h => h)
  have hf := hf.keep (hch1.trans hch2) (fun h => h) (fun h => h)
  have hch := hch1.trans hch2
  generalize hEBB : w10.heap.size = EB at *
  generalize w13.alloc (.cells #[.pointer (some ⟨R, 0, none⟩), .pointer (some ⟨CF, 0, none⟩), .int .i64 n, .slice (some ⟨EB, 0, none⟩) t t] T_web_Web) = w15 at *
  have s3 := hch.size
  have l4 := hW.lt
  have enL : L ≠ CL ∧ L ≠ CF ∧ CL ≠ R ∧ CL ≠ F := by omega
  -- the values of items
  let J : Nat → List Value → World → Prop := fun j vs w' => ∃ i : Nat, vs = [.int .i64 i] ∧ i ≤ n ∧ CE w15 w' CF CL (n + t) (fun x => if x < i then 9223372036854775807 else 0) (fun _ _ => False) ∧ j = n - i
  refine ⟨LI J, LM J, ⟨_, 0, rfl, by omega, ?_, rfl⟩, ?_⟩
  · have e0 : (fun x : Nat => if x < 0 then (9223372036854775807 : Int) else 0) = fun _ => 0 := by funext x; simp
    rw [e0]; exact CE.start hf
  intro _ i w19 hJ
  obtain ⟨i, hvs, hin, hce, hj⟩ := hJ.at
  simp only [List.cons.injEq, Value.int.injEq, and_true, true_and] at hvs
  subst hvs
  refine bif_i (fun hc => ?_) (fun hc => ?_) <;> simp only [b1s] at hc
  · refine (Cut.c_Set (a := i) (z := 9223372036854775807) hce.a (by omega) (by omega)).mono ?_
    rintro r w21 ⟨rfl, hce2⟩
    refine ⟨_, rfl, err_i (fun e => absurd rfl e) (fun _ => ?_)⟩
    rw [wrap64_in (by omega) (by omega)]
    refine LI.again (k := n - (i + 1)) ⟨i + 1, rfl, by omega, ?_, rfl⟩ (by rw [hj]; omega)
    have e1 : upd (fun x : Nat => if x < i then (9223372036854775807 : Int) else 0) i 9223372036854775807 = fun x => if x < i + 1 then 9223372036854775807 else 0 := by
      funext x
      unfold upd
      by_cases hx : x = i
      · simp [hx]
      · rw [if_neg hx]
        by_cases hxi : x < i
        · simp only [if_pos hxi, if_pos (show x < i + 1 by omega)]
        · simp only [if_neg hxi, if_neg (show ¬ x < i + 1 by omega)]
    rw [← e1]
    exact hce.trans hce2
  have hin : i = n := by omega
  subst hin
  clear hJ hj hc J
  have hW19 := hce.c.row (fun e => by omega) hW
  have hEB19 := hce.c.row (fun e => by omega) hEB
  have ha19 := ha.keep hce.c (fun e => by omega) (fun e => by omega) (fun e => by omega)
  refine ldS_r hW19 rfl ?_
  let J : Nat → List Value → World → Prop := fun j vs w' => ∃ k : Nat, vs = [.int .i64 k] ∧ k ≤ t ∧ Chg (· = EB) w19 w' ∧ Row w'.heap EB T__2int32 (recs (fun x => if x < k then [.int .i32 (-1), .int .i32 (-1)] else [.int .i32 0, .int .i32 0]) t) ∧ j = t - k
  refine ⟨LI J, LM J, ⟨_, 0, rfl, by omega, Chg.refl _ _, ?_, rfl⟩, ?_⟩
  · refine (recs_congr fun j _ => ?_) ▸ hEB19
    simp
  intro _ k w27 hJ
  obtain ⟨k, hvs, hkt, hc27, hrow, hj⟩ := hJ.at
  simp only [List.cons.injEq, Value.int.injEq, and_true, true_and] at hvs
  subst hvs
  have hW27 := hc27.row (fun e => by omega) hW19
  refine bif_i (fun hc => ?_) (fun hc => ?_) <;> simp only [b1s] at hc
  · have hlen : ∀ x : Nat, (if x < k then [Value.int .i32 (-1), Value.int .i32 (-1)] else [.int .i32 0, .int .i32 0]).length = 2 := fun x => by split <;> rfl
    have hel := recs_length _ hlen t
    refine ldS_r hW27 rfl (ixS_i (by omega) ?_)
    rw [Nat.zero_add]
    refine sto_r hrow (by rw [hel]; omega) rfl fun hr1 => ?_
    rw [add_mk]
    refine sto_r hr1 (by rw [List.length_set, hel]; omega) rfl fun hr2 => ?_
    rw [wrap64_in (by omega) (by omega)]
    refine LI.again (k := t - (k + 1)) ⟨k + 1, rfl, by omega, (hc27.setCell _ _ (.inl rfl)).setCell _ _ (.inl rfl), ?_, rfl⟩ (by rw [hj]; omega)
    have e1 := recs_set (sz := 2) _ hlen (g := fun x => if x = k then [Value.int .i32 (-1), .int .i32 0] else if x < k then [Value.int .i32 (-1), Value.int .i32 (-1)] else [.int .i32 0, .int .i32 0]) (n := t) (i := k) (k := 0) (v := .int .i32 (-1)) (by omega) (by omega)
      (fun j hj => by simp only [if_neg hj]) (by simp)
    rw [show k * 2 + 0 = k * 2 from rfl] at e1
    rw [e1] at hr2
    have e2 := recs_set (sz := 2) (fun x : Nat => if x = k then [Value.int .i32 (-1), .int .i32 0] else if x < k then [Value.int .i32 (-1), Value.int .i32 (-1)] else [.int .i32 0, .int .i32 0]) (fun x => by
        by_cases h1 : x = k
        · simp only [if_pos h1]; rfl
        · by_cases h2 : x < k
          · simp only [if_neg h1, if_pos h2]; rfl
          · simp only [if_neg h1, if_neg h2]; rfl)
      (g := fun x : Nat => if x < k + 1 then [Value.int .i32 (-1), Value.int .i32 (-1)] else [.int .i32 0, .int .i32 0]) (n := t) (i := k) (k := 1) (v := .int .i32 (-1)) (by omega) (by omega)
      (fun j hj => by
        by_cases hjk : j < k
        · simp only [if_neg hj, if_pos hjk, if_pos (show j < k + 1 by omega)]
        · simp only [if_neg hj, if_neg hjk, if_neg (show ¬ j < k + 1 by omega)]) (by simp)
    rw [e2] at hr2
    exact hr2
  · have hkt : k = t := by omega
    subst hkt
    have hrow : Row w27.heap EB T__2int32 (endsOf (fun _ => none) k) := by
      have e : recs (fun x : Nat => if x < k then [Value.int .i32 (-1), Value.int .i32 (-1)] else [.int .i32 0, .int .i32 0]) k = endsOf (fun _ => none) k := recs_congr fun j hj => by simp only [if_pos hj]; rfl
      rw [← e]; exact hrow
    refine ⟨_, _, _, _, _, _, _, rfl, ?_, ?_, hW27, hrow, ha19.keep hc27 (fun e => by omega) (fun e => by omega) (fun e => by omega), ⟨_, (hce.a.keep hc27 (fun e => by omega) (fun e => by omega)).congr fun x y => ⟨fun h => h.elim, fun h => ew_ones h⟩, fun x hx => if_pos hx, fun e a b h => (by cases h)⟩,
      fun e a b h => (by cases h), by omega, by omega, enL, by omega⟩
    · exact ((hc1.trans hc2).trans hch).trans' ((hce.c.mono (T := fun k => k = CL ∨ k = EB) fun i _ h => .inl h).trans (hc27.mono fun i _ h => .inr h)) (fun i hi => .inr (by rcases hi with rfl | rfl <;> omega))
    · omega
end
end Web
end Go.Proofs.YtdamhidnlfjkdaaGreatDoor
