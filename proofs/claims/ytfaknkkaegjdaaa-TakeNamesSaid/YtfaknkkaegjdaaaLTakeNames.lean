/- The law TakeNames returns true and its arguments read as before: the given statement. Conditions: none but its row. -/
import Derived.Test.YtfaknkkaegjdaaaFacts
import Derived.Test.YtfaknkkaegjdaaaW8
set_option linter.unusedVariables false
set_option maxRecDepth 4000
namespace Go.Proofs.Ytfaknkkaegjdaaa
open Go.ChangeShapes Go.WideShapes Go.ChangeAt Go.RowKit
set_option maxRecDepth 100000 in
theorem takeNames_lifted (os : Os) (started : os.Started) (H : Type) (enc : TypeId × Value → H) :
    ReturnsInHanded {} Try.checked os 17 .any (Rows.takeNamesSpec.pre6 enc Try.prog Try.f17 Rows.takeNamesRow.domain false) (Rows.takeNamesSpec.post enc Try.prog Try.f17 false true false false) := by
  refine returnsInHanded_of_change (C := Try.checked) (by kernel_rfl) started (by kernel_rfl) Try.func17
    (ChangeSpec.witness6 (enc := enc) (C := Try.checked) false ⟨#[], #[], []⟩ 8 (by kernel_rfl) (by kernel_rfl) (by kernel_rfl) (by kernel_rfl)) ?_
  intro W base args ds gs before hval0 hW hcnd _
  have hval : ∀ (j : Nat) t v, Try.f17.params[j]? = some t → args[j]? = some v → Value.okWide Try.prog W .any base t v := hval0
  have hW' := hW
  obtain ⟨p, q, hA0, hV, rfl, hfz, hnd⟩ := hW
  have hA : DataW.TrodAll enc Try.prog W 0 (fun _ => true) true Try.f17.params.toList args.toList ds p := hA0
  rw [Try.params17] at hA hval
  clear hA0 hval0
  obtain ⟨args⟩ := args
  obtain ⟨ha, rfl, rfl⟩ := trodAll_nil hA; simp only at ha; subst ha
  refine (calls_of (takeNames_ok W )).mono fun e W' ⟨he, hg⟩ => ?_
  subst he
  exact ⟨_, rfl, law_post hW' hg laidOut_ok (by kernel_rfl) rfl Try.underlying4 rfl rfl rfl rfl⟩
theorem takeNames_joined : joinedFacts Try.prog 17 Try.f17 Rows.takeNamesSpec Rows.takeNamesRow = true := by
  unfold joinedFacts
  rw [laidOut_ok, mapsRowed_ok, stopsHeard_ok, mayEnter_ok, lifts_ok, make_ok]
  kernel_rfl
theorem takeNames_proved : Rows.TakeNamesSaid :=
  OpenClaim.holds_of_wide 17 Try.f17 rfl rfl rfl rfl rfl rfl rfl ⟨rfl, rfl, rfl, rfl, rfl⟩ rfl rfl rfl rfl rfl (by kernel_rfl) Try.func17 takeNames_joined
    (of_decide_eq_true (by kernel_rfl)) (by unfold Func.isWrapper; first | (rw [if_pos (by decide +kernel)]; kernel_rfl) | (rw [if_neg (by decide +kernel)]; exact ⟨rfl, rfl⟩))
    (fun os started H enc _ => takeNames_lifted os started H enc)
#print axioms takeNames_proved
end Go.Proofs.Ytfaknkkaegjdaaa
