/- Own library, part K: remainders of signed numbers. -/
import Derived.Test.YtfaknkkaegjdaaaKitJ
set_option linter.unusedVariables false
namespace Go.Proofs.Ytfaknkkaegjdaaa
theorem rem_int {P : Program} (k : IntKind) (a b : Int) (hb : 0 < b) : ∀ W, (Op.intDiv .rem k a b).run P W = .ok (.int k (a.tmod b)) W := fun W => by
  unfold Op.intDiv
  rw [if_neg (by omega)]
  rfl
theorem tmod_bounds (a b : Int) (hb : 0 < b) : -b < a.tmod b ∧ a.tmod b < b := ⟨Int.lt_tmod_of_pos a hb, Int.tmod_lt_of_pos a hb⟩
def pickI (x n : Int) : Int := if x.tmod n < 0 then x.tmod n + n else x.tmod n
theorem pickI_bounds (x n : Int) (h : 0 < n) : 0 ≤ pickI x n ∧ pickI x n < n := by
  have := tmod_bounds x n h
  unfold pickI
  split <;> omega
end Go.Proofs.Ytfaknkkaegjdaaa
