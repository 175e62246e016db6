/-
The law LoadBytes holds at every input: the row and its tied card.
Conditions: none beyond the given statement's own.
-/
import Derived.Test.YtfeekmmfdkfgmaaGreatDoorLawLoadBytes
import Derived.Test.YtfeekmmfdkfgmaaGreatDoorOpens
import Derived.Test.YtfeekmmfdkfgmaaGreatDoorOpenBytes
import Derived.Test.YtfeekmmfdkfgmaaGreatDoorTie
import Derived.Test.YtfeekmmfdkfgmaaGreatDoorCards
namespace Go.Proofs.YtfeekmmfdkfgmaaGreatDoor
open Go Go.ChangeShapes Go.WideShapes Go.RowKit Go.Deep
set_option linter.unusedVariables false
set_option linter.unusedSimpArgs false
set_option maxRecDepth 100000 in
theorem loadBytes_lifted (os : Os) (started : os.Started) (H : Type) (enc : TypeId × Value → H) :
    ReturnsInHanded {} Tryz.checked os 4 .any (fun w args => (Rows.loadBytesSpec.pre enc Pg Tryz.f4 [] false w args ∧ laidMetH Pg [("errors.errorType", Rows.laid_errors_errorType)] w) ∧ sizedMet enc Pg Tryz.f4 (OpenSpec.ofChange Rows.loadBytesSpec) false w args)
      (Rows.loadBytesSpec.post enc Pg Tryz.f4 false true false false) := by
  refine returnsInHanded_of_change_and (C := Tryz.checked) (X := fun w _ => laidMetH Pg [("errors.errorType", Rows.laid_errors_errorType)] w) (fun _ _ _ hh h => h.of_heap hh) door_own started (by kernel_rfl) Tryz.func4
    (ChangeSpec.witness_at (enc := enc) (C := Tryz.checked) (os := os) (X := fun w _ => laidMetH Pg [("errors.errorType", Rows.laid_errors_errorType)] w) false (laidWorld os) #[.slice none 0 0, .int .i64 0] 8 rfl (by kernel_rfl) (by kernel_rfl) (by kernel_rfl) (by kernel_rfl) (by kernel_rfl) (laidWorld_met os _)) ?_
  intro W base args ds gs before hval0 hW _ _ hL _
  have hval : ∀ (j : Nat) t v, Tryz.f4.params[j]? = some t → args[j]? = some v → Value.okWide Pg W .any base t v := hval0
  have hW' := hW
  obtain ⟨p, q, hA0, hV0, rfl, hfz, hnd⟩ := hW
  have hA : DataW.TrodAll enc Pg W 0 (fun _ => true) true Tryz.f4.params.toList args.toList ds p := hA0
  have hV : DataW.TrodVars enc Pg W (fun _ => true) [] gs q := hV0
  rw [Tryz.params4] at hA hval
  obtain ⟨v0, v1, d0, d1, p0, p1, rfl, rfl, rfl, h0, h1⟩ := trodAll_two hA
  obtain ⟨sb, sc, xs, rfl, hm, hbt, hbc⟩ := open_bytes Tryz.underlying44 Tryz.underlying5 (by kernel_rfl) (hval 0 44 v0 rfl rfl) h0
  obtain ⟨x1, rfl, rfl, rfl, hw1⟩ := open_int Tryz.underlying3 (hval 1 3 v1 rfl rfl) h1
  have hb1 : -9223372036854775808 ≤ x1 ∧ x1 ≤ 9223372036854775807 := by
    have h := hw1
    simp only [Lit.wf, Bool.and_eq_true, decide_eq_true_eq] at h
    exact h
  have hg := handle_of_laid hL
  obtain ⟨rfl, rfl⟩ : gs = [] ∧ q = [] := by
    cases gs with
    | nil => exact ⟨rfl, hV⟩
    | cons g r => exact absurd hV (by intro h; cases h)
  have e1 : Rows.loadBytesSpec.fn H ([d0, .lit (.int .i64 x1)] ++ []) = { results := [.lit (.bool true)], args := [d0, .lit (.int .i64 x1)] } := by simp [Rows.loadBytesSpec]
  refine (Core.c_LoadBytes hg hm hbt hbc).mono fun e W' ⟨he, hc⟩ => ?_
  subst he
  have hb : Below W.heap.size W W' := hc.below
  have hlt := hW'.lt
  refine ⟨_, rfl, _, _, _, [], p0 ++ [], [], hW', ?_, ?_, ?_, hb.frame _, fun h => by cases h⟩
  · rw [e1]; exact trodAll_mk1 (shut_bool Tryz.underlying4 true)
  · rw [e1]
    exact trodAll_mk2 (Below.trod door_laidOut (by kernel_rfl) (of_decide_eq_true (by kernel_rfl)) h0 hb (fun x hx => by simpa using hlt x (by simp [hx]))) (shut_int Tryz.underlying3 hw1)
  · rw [e1]; rfl
theorem and2 {a b : Bool} (h1 : a = true) (h2 : b = true) : (a && b) = true := by rw [h1, h2]; rfl
set_option maxHeartbeats 100000000 in
theorem loadBytes_joined : joinedFacts Tryz.pinned.checked.prog 4 Tryz.f4 Rows.loadBytesSpec Rows.loadBytesRow = true := by
  unfold joinedFacts
  repeat' (with_reducible apply and2)
  all_goals (as_aux_lemma => kernel_rfl)
theorem loadBytes_named : Pg.funcNamed "plait/plaitlaw18.LoadBytes" = some 4 := by kernel_rfl
theorem loadBytes_near : ((Pg.closure 4).any fun g => (Pg.funcs[g]?).any Func.goes) = false := by kernel_rfl
theorem none_goes : Pg.funcs.any Func.goes = false := by kernel_rfl
theorem goes_of {P : Program} {f : FuncId} {c : OpenClaim} (h1 : c.start = .entering) (h2 : P.funcNamed c.func = some f) (h3 : ((P.closure f).any fun g => (P.funcs[g]?).any Func.goes) = false) (h4 : P.funcs.any Func.goes = false) : false = c.goesBy P := by
  unfold OpenClaim.goesBy Program.goesAt Program.goesFrom
  rw [h1, h2]
  simp only [Option.any_some, Program.goes, h3, h4, Bool.and_false, Bool.or_false]
theorem loadBytes_goes : false = (Rows.loadBytesRow).goesBy Tryz.pinned.checked.prog := goes_of rfl loadBytes_named loadBytes_near none_goes
set_option maxHeartbeats 100000000 in
theorem loadBytes_holds : Rows.LoadBytesSaid :=
  OpenClaim.holds_of_wide 4 Tryz.f4 rfl rfl rfl rfl rfl rfl rfl ⟨rfl, rfl, rfl, rfl, rfl⟩ rfl rfl rfl rfl rfl loadBytes_named Tryz.func4 loadBytes_joined
    (of_decide_eq_true (by as_aux_lemma => kernel_rfl)) (by unfold Func.isWrapper; rw [if_neg (of_decide_eq_false (by as_aux_lemma => kernel_rfl))]; exact ⟨rfl, rfl⟩)
    (fun os started H enc _ => loadBytes_lifted os started H enc)
set_option maxHeartbeats 100000000 in
theorem loadBytes_card_holds : Rows.LoadBytesCardSaid :=
  Claim7.holds_tied_plain_at .later [] [.handle] true (true, "0235205d3b8335dceb1457eb7fe9e97fd8de0cfab8bb2beddc4a8f20d7c2fa4c") true
    loadBytes_holds (fun _ h => by cases h) (by as_aux_lemma => kernel_rfl) (fun _ h => by cases h) loadBytes_row_tie rfl ⟨rfl, rfl⟩ (by as_aux_lemma => kernel_rfl) rfl
    (fun f fn hf hfn => by
      obtain rfl : f = 4 := Option.some.inj (loadBytes_named.symm.trans hf) |>.symm
      obtain rfl : fn = Tryz.f4 := (Option.some.inj (Tryz.func4.symm.trans hfn)).symm
      exact ⟨by as_aux_lemma => kernel_rfl, fun j t ht => by
        rw [Tryz.params4] at ht
        have h3 : t = 3 ∨ t = 44 := by
          rcases j with _ | _ | j
          · exact .inr (by simpa using ht.symm)
          · exact .inl (by simpa using ht.symm)
          · simp at ht
        rcases h3 with rfl | rfl
        · exact (show Pg.wantsStandIn 3 = false by kernel_rfl)
        · exact (show Pg.wantsStandIn 44 = false by kernel_rfl)⟩)
    loadBytes_goes
#print axioms loadBytes_card_holds
end Go.Proofs.YtfeekmmfdkfgmaaGreatDoor
