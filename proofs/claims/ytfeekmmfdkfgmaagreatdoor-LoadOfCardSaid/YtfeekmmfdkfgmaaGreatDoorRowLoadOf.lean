/-
The law LoadOf holds at every input: the row and its tied card.
Conditions: none beyond the given statement's own.
-/
import Derived.Test.YtfeekmmfdkfgmaaGreatDoorLawLoadOf
import Derived.Test.YtfeekmmfdkfgmaaGreatDoorOpens
import Derived.Test.YtfeekmmfdkfgmaaGreatDoorOpenModel
import Derived.Test.YtfeekmmfdkfgmaaGreatDoorTie
import Derived.Test.YtfeekmmfdkfgmaaGreatDoorCards
namespace Go.Proofs.YtfeekmmfdkfgmaaGreatDoor
open Go Go.ChangeShapes Go.WideShapes Go.RowKit Go.Deep
set_option linter.unusedVariables false
set_option linter.unusedSimpArgs false
set_option maxRecDepth 100000 in
theorem loadOf_lifted (os : Os) (started : os.Started) (H : Type) (enc : TypeId × Value → H) :
    ReturnsInHanded {} Tryz.checked os 3 .any (fun w args => (Rows.loadOfSpec.pre enc Pg Tryz.f3 [] false w args ∧ laidMetH Pg [("errors.errorType", Rows.laid_errors_errorType)] w) ∧ sizedMet enc Pg Tryz.f3 (OpenSpec.ofChange Rows.loadOfSpec) false w args)
      (Rows.loadOfSpec.post enc Pg Tryz.f3 false true false false) := by
  refine returnsInHanded_of_change_and (C := Tryz.checked) (X := fun w _ => laidMetH Pg [("errors.errorType", Rows.laid_errors_errorType)] w) (fun _ _ _ hh h => h.of_heap hh) door_own started (by kernel_rfl) Tryz.func3
    (ChangeSpec.witness_at (enc := enc) (C := Tryz.checked) (os := os) (X := fun w _ => laidMetH Pg [("errors.errorType", Rows.laid_errors_errorType)] w) false (laidWorld os) #[.agg #[.int .i64 0, .slice none 0 0, .slice none 0 0, .slice none 0 0]] 8 rfl (by kernel_rfl) (by kernel_rfl) (by kernel_rfl) (by kernel_rfl) (by kernel_rfl) (laidWorld_met os _)) ?_
  intro W base args ds gs before hval0 hW _ _ hL _
  have hval : ∀ (j : Nat) t v, Tryz.f3.params[j]? = some t → args[j]? = some v → Value.okWide Pg W .any base t v := hval0
  have hW' := hW
  obtain ⟨p, q, hA0, hV0, rfl, hfz, hnd⟩ := hW
  have hA : DataW.TrodAll enc Pg W 0 (fun _ => true) true Tryz.f3.params.toList args.toList ds p := hA0
  have hV : DataW.TrodVars enc Pg W (fun _ => true) [] gs q := hV0
  rw [Tryz.params3] at hA hval
  obtain ⟨v0, d0, rfl, rfl, h0⟩ := trodAll_one hA
  obtain ⟨M, rfl, hm⟩ := open_model Tryz.underlying25 (by kernel_rfl) ⟨_, rfl, rfl, Tryz.underlying3, by kernel_rfl⟩ ⟨_, rfl, rfl, Tryz.underlying22, by kernel_rfl⟩ ⟨_, rfl, rfl, Tryz.underlying22, by kernel_rfl⟩ ⟨_, rfl, rfl, Tryz.underlying23, by kernel_rfl⟩ Tryz.underlying113 (by kernel_rfl) ⟨_, rfl, rfl, Tryz.underlying104, by kernel_rfl⟩ ⟨_, rfl, rfl, Tryz.underlying3, by kernel_rfl⟩ Tryz.underlying109 (by kernel_rfl) ⟨_, _, rfl, rfl, Tryz.underlying105, by kernel_rfl, Tryz.underlying104, by kernel_rfl⟩ ⟨_, _, rfl, rfl, Tryz.underlying105, by kernel_rfl, Tryz.underlying104, by kernel_rfl⟩ ⟨_, rfl, rfl, Tryz.underlying21, by kernel_rfl⟩ (hval 0 25 v0 rfl rfl) h0
  have hg := handle_of_laid hL
  obtain ⟨rfl, rfl⟩ : gs = [] ∧ q = [] := by
    cases gs with
    | nil => exact ⟨rfl, hV⟩
    | cons g r => exact absurd hV (by intro h; cases h)
  have e1 : Rows.loadOfSpec.fn H ([d0] ++ []) = { results := [.lit (.bool true)], args := [d0] } := by simp [Rows.loadOfSpec]
  refine (Core.c_LoadOf hg hm).mono fun e W' ⟨he, hc⟩ => ?_
  subst he
  have hb : Below W.heap.size W W' := hc.below
  have hlt := hW'.lt
  refine ⟨_, rfl, _, _, _, [], p, [], hW', ?_, ?_, ?_, hb.frame _, fun h => by cases h⟩
  · rw [e1]; exact trodAll_mk1 (shut_bool Tryz.underlying4 true)
  · rw [e1]
    exact trodAll_mk1 (Below.trod door_laidOut (by kernel_rfl) (of_decide_eq_true (by kernel_rfl)) h0 hb (fun x hx => by simpa using hlt x (by simp [hx])))
  · rw [e1]; rfl
theorem and2 {a b : Bool} (h1 : a = true) (h2 : b = true) : (a && b) = true := by rw [h1, h2]; rfl
set_option maxHeartbeats 100000000 in
theorem loadOf_joined : joinedFacts Tryz.pinned.checked.prog 3 Tryz.f3 Rows.loadOfSpec Rows.loadOfRow = true := by
  unfold joinedFacts
  repeat' (with_reducible apply and2)
  all_goals (as_aux_lemma => kernel_rfl)
theorem loadOf_named : Pg.funcNamed "plait/plaitlaw18.LoadOf" = some 3 := by kernel_rfl
theorem loadOf_near : ((Pg.closure 3).any fun g => (Pg.funcs[g]?).any Func.goes) = false := by kernel_rfl
theorem none_goes : Pg.funcs.any Func.goes = false := by kernel_rfl
theorem goes_of {P : Program} {f : FuncId} {c : OpenClaim} (h1 : c.start = .entering) (h2 : P.funcNamed c.func = some f) (h3 : ((P.closure f).any fun g => (P.funcs[g]?).any Func.goes) = false) (h4 : P.funcs.any Func.goes = false) : false = c.goesBy P := by
  unfold OpenClaim.goesBy Program.goesAt Program.goesFrom
  rw [h1, h2]
  simp only [Option.any_some, Program.goes, h3, h4, Bool.and_false, Bool.or_false]
theorem loadOf_goes : false = (Rows.loadOfRow).goesBy Tryz.pinned.checked.prog := goes_of rfl loadOf_named loadOf_near none_goes
set_option maxHeartbeats 100000000 in
theorem loadOf_holds : Rows.LoadOfSaid :=
  OpenClaim.holds_of_wide 3 Tryz.f3 rfl rfl rfl rfl rfl rfl rfl ⟨rfl, rfl, rfl, rfl, rfl⟩ rfl rfl rfl rfl rfl loadOf_named Tryz.func3 loadOf_joined
    (of_decide_eq_true (by as_aux_lemma => kernel_rfl)) (by unfold Func.isWrapper; rw [if_neg (of_decide_eq_false (by as_aux_lemma => kernel_rfl))]; exact ⟨rfl, rfl⟩)
    (fun os started H enc _ => loadOf_lifted os started H enc)
set_option maxHeartbeats 100000000 in
theorem loadOf_card_holds : Rows.LoadOfCardSaid :=
  Claim7.holds_tied_plain_at .later [] [.handle] true (true, "0235205d3b8335dceb1457eb7fe9e97fd8de0cfab8bb2beddc4a8f20d7c2fa4c") true
    loadOf_holds (fun _ h => by cases h) (by as_aux_lemma => kernel_rfl) (fun _ h => by cases h) loadOf_row_tie rfl ⟨rfl, rfl⟩ (by as_aux_lemma => kernel_rfl) rfl
    (fun f fn hf hfn => by
      obtain rfl : f = 3 := Option.some.inj (loadOf_named.symm.trans hf) |>.symm
      obtain rfl : fn = Tryz.f3 := (Option.some.inj (Tryz.func3.symm.trans hfn)).symm
      exact ⟨by as_aux_lemma => kernel_rfl, fun j t ht => by
        rw [Tryz.params3] at ht
        have h3 : t = 25 := by
          rcases j with _ | j
          · simpa using ht.symm
          · simp at ht
        subst h3
        exact (show Pg.wantsStandIn 25 = false by kernel_rfl)⟩)
    loadOf_goes
#print axioms loadOf_card_holds
end Go.Proofs.YtfeekmmfdkfgmaaGreatDoor
