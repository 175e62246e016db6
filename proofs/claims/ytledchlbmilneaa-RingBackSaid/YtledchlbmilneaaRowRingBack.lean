/-
The law RingBack holds at every input: the row.
Conditions: none beyond the given statement's own.
-/
import Derived.Test.YtledchlbmilneaaLawRingBack
import Derived.Test.YtledchlbmilneaaOpens
namespace Go.Proofs.Ytledchlbmilneaa
open Go Go.ChangeShapes Go.WideShapes Go.RowKit Go.Deep
set_option linter.unusedVariables false
set_option linter.unusedSimpArgs false
set_option maxRecDepth 100000 in
theorem ringBack_lifted (os : Os) (started : os.Started) (H : Type) (enc : TypeId × Value → H) :
    ReturnsInHanded {} Try.checked os 3 .any (Rows.ringBackSpec.pre6 enc Pg Try.f3 [] false) (Rows.ringBackSpec.post enc Pg Try.f3 false true false false) := by
  refine returnsInHanded_of_change (C := Try.checked) door_own started (by kernel_rfl) Try.func3
    (ChangeSpec.witness6 (enc := enc) (C := Try.checked) false ⟨#[], #[.int .i64 0, .slice none 0 0, .agg #[.int .i64 0, .int .i64 0]], []⟩ 8 (by kernel_rfl) (by kernel_rfl) (by kernel_rfl) (by kernel_rfl)) ?_
  intro W base args ds gs before hval0 hW _ _
  have hval : ∀ (j : Nat) t v, Try.f3.params[j]? = some t → args[j]? = some v → Value.okWide Pg W .any base t v := hval0
  have hW' := hW
  obtain ⟨p, q, hA0, hV0, rfl, hfz, hnd⟩ := hW
  have hA : DataW.TrodAll enc Pg W 0 (fun _ => true) true Try.f3.params.toList args.toList ds p := hA0
  have hV : DataW.TrodVars enc Pg W (fun _ => true) [] gs q := hV0
  rw [Try.params3] at hA hval
  obtain ⟨v0, v1, v2, d0, d1, d2, p0, p1, p2, rfl, rfl, rfl, h0, h1, h2⟩ := trodAll_three hA
  obtain ⟨x0, rfl, rfl, rfl, hw0⟩ := open_int Try.underlying3 (hval 0 3 v0 rfl rfl) h0
  have hb0 : -9223372036854775808 ≤ x0 ∧ x0 ≤ 9223372036854775807 := by
    have h := hw0
    simp only [Lit.wf, Bool.and_eq_true, decide_eq_true_eq] at h
    exact h
  obtain ⟨sb, sl, sc, f, rfl, hf, _, hfb⟩ := open_recs (sz := 3) Try.underlying22 Try.underlying31 (by kernel_rfl) (by omega) (fun k hk => by
    match k, hk with
    | 0, _ => exact ⟨_, rfl, rfl, Try.underlying3, by kernel_rfl⟩
    | 1, _ => exact ⟨_, rfl, rfl, Try.underlying3, by kernel_rfl⟩
    | 2, _ => exact ⟨_, rfl, rfl, Try.underlying3, by kernel_rfl⟩) (hval 1 22 v1 rfl rfl) h1
  obtain ⟨x, y, rfl⟩ := open_arr2 Try.underlying23 Try.underlying3 (by kernel_rfl) (by kernel_rfl) (hval 2 23 v2 rfl rfl) h2
  obtain ⟨rfl, rfl⟩ : gs = [] ∧ q = [] := by
    cases gs with
    | nil => exact ⟨rfl, hV⟩
    | cons g r => exact absurd hV (by intro h; cases h)
  have e1 : Rows.ringBackSpec.fn H ([.lit (.int .i64 x0), d1, d2] ++ []) = { results := [.lit (.bool true)], args := [.lit (.int .i64 x0), d1, d2] } := by simp [Rows.ringBackSpec]
  refine (Seq.c_RingBack hf).mono fun e W' ⟨he, hc⟩ => ?_
  subst he
  have hb : Below W.heap.size W W' := hc.below
  have hlt := hW'.lt
  refine ⟨_, rfl, _, _, _, [], [] ++ (p1 ++ p2), [], hW', ?_, ?_, ?_, hb.frame _, fun h => by cases h⟩
  · rw [e1]; exact trodAll_mk1 (shut_bool Try.underlying4 true)
  · rw [e1]
    exact trodAll_mk3 (shut_int Try.underlying3 hw0) (Below.trod door_laidOut (by kernel_rfl) (of_decide_eq_true (by kernel_rfl)) h1 hb (fun x hx => by simpa using hlt x (by simp [hx]))) (Below.trod door_laidOut (by kernel_rfl) (of_decide_eq_true (by kernel_rfl)) h2 hb (fun x hx => by simpa using hlt x (by simp [hx])))
  · rw [e1]; rfl
theorem ringBack_holds : Rows.RingBackSaid :=
  OpenClaim.holds_of_wide 3 Try.f3 rfl rfl rfl rfl rfl rfl rfl ⟨rfl, rfl, rfl, rfl, rfl⟩ rfl rfl rfl rfl rfl (by kernel_rfl) Try.func3 (by kernel_rfl)
    (of_decide_eq_true (by kernel_rfl)) (by unfold Func.isWrapper; rw [if_neg (of_decide_eq_false (by kernel_rfl))]; exact ⟨rfl, rfl⟩)
    (fun os started H enc _ => ringBack_lifted os started H enc)
#print axioms ringBack_holds
end Go.Proofs.Ytledchlbmilneaa
