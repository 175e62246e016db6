/-
The law CoreBack holds at every input: the row and its tied card.
Conditions: none beyond the given statement's own.
-/
import Derived.Test.YtpmicakdjhoafaaGreatDoorLawCoreBack
import Derived.Test.YtpmicakdjhoafaaGreatDoorOpens
import Derived.Test.YtpmicakdjhoafaaGreatDoorOpenActs
import Derived.Test.YtpmicakdjhoafaaGreatDoorTie
import Derived.Test.YtpmicakdjhoafaaGreatDoorCards
namespace Go.Proofs.YtpmicakdjhoafaaGreatDoor
open Go Go.ChangeShapes Go.WideShapes Go.RowKit Go.Deep
set_option linter.unusedVariables false
set_option linter.unusedSimpArgs false
set_option maxRecDepth 100000 in
theorem coreBack_lifted (os : Os) (started : os.Started) (H : Type) (enc : TypeId × Value → H) :
    ReturnsInHanded {} Tryz.checked os 6 .any (fun w args => (Rows.coreBackSpec.pre enc Pg Tryz.f6 [] false w args ∧ laidMetH Pg [("errors.errorType", Rows.laid_errors_errorType)] w) ∧ sizedMet enc Pg Tryz.f6 (OpenSpec.ofChange Rows.coreBackSpec) false w args)
      (Rows.coreBackSpec.post enc Pg Tryz.f6 false true false false) := by
  refine returnsInHanded_of_change_and (C := Tryz.checked) (X := fun w _ => laidMetH Pg [("errors.errorType", Rows.laid_errors_errorType)] w) (fun _ _ _ hh h => h.of_heap hh) door_own started (by kernel_rfl) Tryz.func6
    (ChangeSpec.witness_at (enc := enc) (C := Tryz.checked) (os := os) (X := fun w _ => laidMetH Pg [("errors.errorType", Rows.laid_errors_errorType)] w) false (laidWorld os) #[.int .i64 0, .slice none 0 0, .agg #[.int .i64 0, .int .i64 0, .int .i64 0, .int .i64 0, .int .i64 0, .int .i64 0, .int .i32 0]] 8 rfl (by kernel_rfl) (by kernel_rfl) (by kernel_rfl) (by kernel_rfl) (by kernel_rfl) (laidWorld_met os _)) ?_
  intro W base args ds gs before hval0 hW _ _ hL _
  have hval : ∀ (j : Nat) t v, Tryz.f6.params[j]? = some t → args[j]? = some v → Value.okWide Pg W .any base t v := hval0
  have hW' := hW
  obtain ⟨p, q, hA0, hV0, rfl, hfz, hnd⟩ := hW
  have hA : DataW.TrodAll enc Pg W 0 (fun _ => true) true Tryz.f6.params.toList args.toList ds p := hA0
  have hV : DataW.TrodVars enc Pg W (fun _ => true) [] gs q := hV0
  rw [Tryz.params6] at hA hval
  obtain ⟨v0, v1, v2, d0, d1, d2, p0, p1, p2, rfl, rfl, rfl, h0, h1, h2⟩ := trodAll_three hA
  obtain ⟨x0, rfl, rfl, rfl, hw0⟩ := open_int Tryz.underlying3 (hval 0 3 v0 rfl rfl) h0
  have hb0 : -9223372036854775808 ≤ x0 ∧ x0 ≤ 9223372036854775807 := by
    have h := hw0
    simp only [Lit.wf, Bool.and_eq_true, decide_eq_true_eq] at h
    exact h
  obtain ⟨sb, sl, sc, f, rfl, hf, hfw⟩ := open_acts Tryz.underlying22 Tryz.underlying41 (by kernel_rfl) ⟨_, rfl, rfl, Tryz.underlying3, by kernel_rfl⟩ ⟨_, rfl, rfl, Tryz.underlying3, by kernel_rfl⟩ ⟨_, _, rfl, rfl, Tryz.underlying39, by kernel_rfl, Tryz.underlying3, by kernel_rfl⟩ ⟨_, _, rfl, rfl, Tryz.underlying39, by kernel_rfl, Tryz.underlying3, by kernel_rfl⟩ ⟨_, rfl, rfl, Tryz.underlying21, by kernel_rfl⟩ (hval 1 22 v1 rfl rfl) h1
  obtain ⟨o0, o1, o2, o3, o4, o5, o6, rfl, hm6⟩ := open_act Tryz.underlying41 (by kernel_rfl) ⟨_, rfl, rfl, Tryz.underlying3, by kernel_rfl⟩ ⟨_, rfl, rfl, Tryz.underlying3, by kernel_rfl⟩ ⟨_, _, rfl, rfl, Tryz.underlying39, by kernel_rfl, Tryz.underlying3, by kernel_rfl⟩ ⟨_, _, rfl, rfl, Tryz.underlying39, by kernel_rfl, Tryz.underlying3, by kernel_rfl⟩ ⟨_, rfl, rfl, Tryz.underlying21, by kernel_rfl⟩ (hval 2 41 v2 rfl rfl) h2
  have hg := handle_of_laid hL
  obtain ⟨rfl, rfl⟩ : gs = [] ∧ q = [] := by
    cases gs with
    | nil => exact ⟨rfl, hV⟩
    | cons g r => exact absurd hV (by intro h; cases h)
  have e1 : Rows.coreBackSpec.fn H ([.lit (.int .i64 x0), d1, d2] ++ []) = { results := [.lit (.bool true)], args := [.lit (.int .i64 x0), d1, d2] } := by simp [Rows.coreBackSpec]
  refine (Core.c_CoreBack hg hf hfw hm6).mono fun e W' ⟨he, hc⟩ => ?_
  subst he
  have hb : Below W.heap.size W W' := hc.below
  have hlt := hW'.lt
  refine ⟨_, rfl, _, _, _, [], [] ++ (p1 ++ p2), [], hW', ?_, ?_, ?_, hb.frame _, fun h => by cases h⟩
  · rw [e1]; exact trodAll_mk1 (shut_bool Tryz.underlying4 true)
  · rw [e1]
    exact trodAll_mk3 (shut_int Tryz.underlying3 hw0) (Below.trod door_laidOut (by kernel_rfl) (of_decide_eq_true (by kernel_rfl)) h1 hb (fun x hx => by simpa using hlt x (by simp [hx]))) (Below.trod door_laidOut (by kernel_rfl) (of_decide_eq_true (by kernel_rfl)) h2 hb (fun x hx => by simpa using hlt x (by simp [hx])))
  · rw [e1]; rfl
theorem coreBack_holds : Rows.CoreBackSaid :=
  OpenClaim.holds_of_wide 6 Tryz.f6 rfl rfl rfl rfl rfl rfl rfl ⟨rfl, rfl, rfl, rfl, rfl⟩ rfl rfl rfl rfl rfl (by kernel_rfl) Tryz.func6 (by kernel_rfl)
    (of_decide_eq_true (by kernel_rfl)) (by unfold Func.isWrapper; rw [if_neg (of_decide_eq_false (by kernel_rfl))]; exact ⟨rfl, rfl⟩)
    (fun os started H enc _ => coreBack_lifted os started H enc)
theorem coreBack_card_holds : Rows.CoreBackCardSaid :=
  Claim7.holds_tied_plain_at .later [] [.handle] true (true, "f3973ac449b337f88256588e87f72bc8445d5d7cb0c5454f448fc093680c6339") true
    coreBack_holds (fun _ h => by cases h) (by kernel_rfl) (fun _ h => by cases h) coreBack_row_tie rfl ⟨rfl, rfl⟩ (by kernel_rfl) rfl
    (fun f fn hf hfn => by
      obtain rfl : f = 6 := Option.some.inj ((show Pg.funcNamed "plait/plaitlaw16.CoreBack" = some 6 by kernel_rfl).symm.trans hf) |>.symm
      obtain rfl : fn = Tryz.f6 := (Option.some.inj (Tryz.func6.symm.trans hfn)).symm
      exact ⟨by kernel_rfl, fun j t ht => by
        rw [Tryz.params6] at ht
        have h3 : t = 3 ∨ t = 22 ∨ t = 41 := by
          rcases j with _ | _ | _ | j
          · exact .inl (by simpa using ht.symm)
          · exact .inr (.inl (by simpa using ht.symm))
          · exact .inr (.inr (by simpa using ht.symm))
          · simp at ht
        rcases h3 with rfl | rfl | rfl
        · exact (show Pg.wantsStandIn 3 = false by kernel_rfl)
        · exact (show Pg.wantsStandIn 22 = false by kernel_rfl)
        · exact (show Pg.wantsStandIn 41 = false by kernel_rfl)⟩)
    (by kernel_rfl)
#print axioms coreBack_card_holds
end Go.Proofs.YtpmicakdjhoafaaGreatDoor
