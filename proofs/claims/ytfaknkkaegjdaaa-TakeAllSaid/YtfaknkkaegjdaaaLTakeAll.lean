/- The law TakeAll returns true and its arguments read as before: the given statement. Conditions: none but its row. -/
import Derived.Test.YtfaknkkaegjdaaaFacts
import Derived.Test.YtfaknkkaegjdaaaW12
set_option linter.unusedVariables false
set_option maxRecDepth 4000
namespace Go.Proofs.Ytfaknkkaegjdaaa
open Go.ChangeShapes Go.WideShapes Go.ChangeAt Go.RowKit
theorem takeAll_ok0 : tyOk Try.prog 60 (.sl TCommit) (.inl 61) = true := by kernel_rfl
theorem takeAll_ok2 : tyOk Try.prog 60 (.sl (.int .i64)) (.inl 96) = true := by kernel_rfl
set_option maxRecDepth 100000 in
theorem takeAll_lifted (os : Os) (started : os.Started) (H : Type) (enc : TypeId × Value → H) :
    ReturnsInHanded {} Try.checked os 21 .any (Rows.takeAllSpec.pre6 enc Try.prog Try.f21 Rows.takeAllRow.domain false) (Rows.takeAllSpec.post enc Try.prog Try.f21 false true false false) := by
  refine returnsInHanded_of_change (C := Try.checked) (by kernel_rfl) started (by kernel_rfl) Try.func21
    (ChangeSpec.witness6 (enc := enc) (C := Try.checked) false ⟨#[], #[.slice none 0 0, .int .i64 0, .slice none 0 0], []⟩ 8 (by kernel_rfl) (by kernel_rfl) (by kernel_rfl) (by kernel_rfl)) ?_
  intro W base args ds gs before hval0 hW hcnd _
  have hval : ∀ (j : Nat) t v, Try.f21.params[j]? = some t → args[j]? = some v → Value.okWide Try.prog W .any base t v := hval0
  have hW' := hW
  obtain ⟨p, q, hA0, hV, rfl, hfz, hnd⟩ := hW
  have hA : DataW.TrodAll enc Try.prog W 0 (fun _ => true) true Try.f21.params.toList args.toList ds p := hA0
  rw [Try.params21] at hA hval
  clear hA0 hval0
  obtain ⟨args⟩ := args
  obtain ⟨v0, r0, d0, e0, p0, q0, ha0, rfl, rfl, h0, hA0⟩ := trodAll_cons hA
  simp only at ha0; subst ha0
  obtain ⟨v1, r1, d1, e1, p1, q1, ha1, rfl, rfl, h1, hA1⟩ := trodAll_cons hA0
  subst ha1
  obtain ⟨v2, r2, d2, e2, p2, q2, ha2, rfl, rfl, h2, hA2⟩ := trodAll_cons hA1
  subst ha2
  obtain ⟨rfl, rfl, rfl⟩ := trodAll_nil hA2
  obtain ⟨x0, hx0⟩ := arg_sl 60 takeAll_ok0 Try.underlying61 (hval 0 61 v0 rfl rfl) h0
  obtain ⟨x1, rfl, hx1⟩ := arg_int Try.underlying3 (hval 1 3 v1 rfl rfl) h1
  obtain ⟨x2, hx2⟩ := arg_sl 60 takeAll_ok2 Try.underlying96 (hval 2 96 v2 rfl rfl) h2
  refine (calls_of (takeAll_ok W hx0 x1 hx1 hx2)).mono fun e W' ⟨he, hg⟩ => ?_
  subst he
  exact ⟨_, rfl, law_post hW' hg laidOut_ok (by kernel_rfl) rfl Try.underlying4 rfl rfl rfl rfl⟩
theorem takeAll_joined : joinedFacts Try.prog 21 Try.f21 Rows.takeAllSpec Rows.takeAllRow = true := by
  unfold joinedFacts
  rw [laidOut_ok, mapsRowed_ok, stopsHeard_ok, mayEnter_ok, lifts_ok, make_ok]
  kernel_rfl
theorem takeAll_proved : Rows.TakeAllSaid :=
  OpenClaim.holds_of_wide 21 Try.f21 rfl rfl rfl rfl rfl rfl rfl ⟨rfl, rfl, rfl, rfl, rfl⟩ rfl rfl rfl rfl rfl (by kernel_rfl) Try.func21 takeAll_joined
    (of_decide_eq_true (by kernel_rfl)) (by unfold Func.isWrapper; first | (rw [if_pos (by decide +kernel)]; kernel_rfl) | (rw [if_neg (by decide +kernel)]; exact ⟨rfl, rfl⟩))
    (fun os started H enc _ => takeAll_lifted os started H enc)
#print axioms takeAll_proved
end Go.Proofs.Ytfaknkkaegjdaaa
