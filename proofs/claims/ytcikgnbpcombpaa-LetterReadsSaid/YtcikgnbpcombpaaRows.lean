/-
  No cell of these rows narrows 'for every input' (looked for: loops, veiled, ifaces, maps, wideKeys, modest, calm, conditions, laid).
  DERIVED. THE GIVEN ROWS OF THIS SEAT. 5 by the template 'for every input the law returns true; each argument reads behind the call as it read before'; 0 by the template 'total and deterministic' (their statements: YtcikgnbpcombpaaTotals.lean).
  GIVEN WITH THE SEED: the statements are not yours to turn. If you find one false, say at which input.
  Laid BY PROGRAM, IN A SANDBOX (cutbox-rows.mjs): the forced cells as the released guide's own fill.sh prints them over the translation 585f1b322ddfc815… (all of the seat's roots in one cut). By AI agents, Wed Nov 11 2026. No macro, syntax, notation, axiom, sorry.
-/
import Derived.Test.YtcikgnbpcombpaaChecked
import GoSem.Claim
import GoSem.ClaimJoined
import GoSem.ClaimMapViews
import Derived.JoinedTies
import Derived.KernelRfl
namespace Go.Proofs.Ytcikgnbpcombpaa
/- THE CELL 'sum', in the pinned program and in every row, IS THE sha256 OF THE DUMP (.gsa) THAT YtcikgnbpcombpaaProg.lean LOADS. Nothing in Lean hashes anything: it is a label: what it is worth is what the hold of that sum in a sandbox is worth. -/
noncomputable def Try.pinned : Pinned := { name := "ytcikgnbpcombpaa", sum := "585f1b322ddfc8150c20e3b66b6868d061acc3e24e0215731bcc9fe2a3395473", checked := Try.checked }
namespace Rows
def none {H : Type} : Left H := { results := [], args := [] }

/-- 'lagleashlaw11.LetterCalls': WHATEVER THE INPUT: true; the input reads as it did. -/
def letterCallsSpec : ChangeSpec := { name := "letterCalls", fn := fun _ => fun
  | [d1, d2] => { results := [.lit (.bool true)], args := [d1, d2] }
  | _ => none }
def letterCallsRow : OpenClaim := { program := "ytcikgnbpcombpaa", sum := "585f1b322ddfc8150c20e3b66b6868d061acc3e24e0215731bcc9fe2a3395473", func := "lagleash/lagleashlaw11.LetterCalls", spec := "letterCalls", unfollowed := true, recurses := true, apart := false }
def LetterCallsSaid : Prop := letterCallsRow.holds Try.pinned (OpenSpec.ofChange letterCallsSpec)

/-- ITS FALSE NEIGHBOUR: 'it returns false'. Refute it at one input. -/
def letterCallsWrong : ChangeSpec := { name := "letterCalls", fn := fun _ => fun
  | [d1, d2] => { results := [.lit (.bool false)], args := [d1, d2] }
  | _ => none }
def LetterCallsWrongFalsely : Prop := letterCallsRow.holds Try.pinned (OpenSpec.ofChange letterCallsWrong)

/-- 'lagleashlaw11.LetterNames': WHATEVER THE INPUT: true; the input reads as it did. -/
def letterNamesSpec : ChangeSpec := { name := "letterNames", fn := fun _ => fun
  | [] => { results := [.lit (.bool true)], args := [] }
  | _ => none }
def letterNamesRow : OpenClaim := { program := "ytcikgnbpcombpaa", sum := "585f1b322ddfc8150c20e3b66b6868d061acc3e24e0215731bcc9fe2a3395473", func := "lagleash/lagleashlaw11.LetterNames", spec := "letterNames", unfollowed := true, recurses := true, apart := false }
def LetterNamesSaid : Prop := letterNamesRow.holds Try.pinned (OpenSpec.ofChange letterNamesSpec)

/-- ITS FALSE NEIGHBOUR: 'it returns false'. Refute it at one input. -/
def letterNamesWrong : ChangeSpec := { name := "letterNames", fn := fun _ => fun
  | [] => { results := [.lit (.bool false)], args := [] }
  | _ => none }
def LetterNamesWrongFalsely : Prop := letterNamesRow.holds Try.pinned (OpenSpec.ofChange letterNamesWrong)

/-- 'lagleashlaw11.LetterReads': WHATEVER THE INPUT: true; the input reads as it did. -/
def letterReadsSpec : ChangeSpec := { name := "letterReads", fn := fun _ => fun
  | [d] => { results := [.lit (.bool true)], args := [d] }
  | _ => none }
def letterReadsRow : OpenClaim := { program := "ytcikgnbpcombpaa", sum := "585f1b322ddfc8150c20e3b66b6868d061acc3e24e0215731bcc9fe2a3395473", func := "lagleash/lagleashlaw11.LetterReads", spec := "letterReads", unfollowed := true, recurses := true, apart := false }
def LetterReadsSaid : Prop := letterReadsRow.holds Try.pinned (OpenSpec.ofChange letterReadsSpec)

/-- ITS FALSE NEIGHBOUR: 'it returns false'. Refute it at one input. -/
def letterReadsWrong : ChangeSpec := { name := "letterReads", fn := fun _ => fun
  | [d] => { results := [.lit (.bool false)], args := [d] }
  | _ => none }
def LetterReadsWrongFalsely : Prop := letterReadsRow.holds Try.pinned (OpenSpec.ofChange letterReadsWrong)

/-- 'lagleashlaw11.LetterBack': WHATEVER THE INPUT: true; the input reads as it did. -/
def letterBackSpec : ChangeSpec := { name := "letterBack", fn := fun _ => fun
  | [d1, d2] => { results := [.lit (.bool true)], args := [d1, d2] }
  | _ => none }
def letterBackRow : OpenClaim := { program := "ytcikgnbpcombpaa", sum := "585f1b322ddfc8150c20e3b66b6868d061acc3e24e0215731bcc9fe2a3395473", func := "lagleash/lagleashlaw11.LetterBack", spec := "letterBack", unfollowed := true, recurses := true, apart := false }
def LetterBackSaid : Prop := letterBackRow.holds Try.pinned (OpenSpec.ofChange letterBackSpec)

/-- ITS FALSE NEIGHBOUR: 'it returns false'. Refute it at one input. -/
def letterBackWrong : ChangeSpec := { name := "letterBack", fn := fun _ => fun
  | [d1, d2] => { results := [.lit (.bool false)], args := [d1, d2] }
  | _ => none }
def LetterBackWrongFalsely : Prop := letterBackRow.holds Try.pinned (OpenSpec.ofChange letterBackWrong)

/-- 'lagleashlaw11.LetterUnlike': WHATEVER THE INPUT: true; the input reads as it did. -/
def letterUnlikeSpec : ChangeSpec := { name := "letterUnlike", fn := fun _ => fun
  | [d1, d2, d3] => { results := [.lit (.bool true)], args := [d1, d2, d3] }
  | _ => none }
def letterUnlikeRow : OpenClaim := { program := "ytcikgnbpcombpaa", sum := "585f1b322ddfc8150c20e3b66b6868d061acc3e24e0215731bcc9fe2a3395473", func := "lagleash/lagleashlaw11.LetterUnlike", spec := "letterUnlike", unfollowed := true, recurses := true, apart := false }
def LetterUnlikeSaid : Prop := letterUnlikeRow.holds Try.pinned (OpenSpec.ofChange letterUnlikeSpec)

/-- ITS FALSE NEIGHBOUR: 'it returns false'. Refute it at one input. -/
def letterUnlikeWrong : ChangeSpec := { name := "letterUnlike", fn := fun _ => fun
  | [d1, d2, d3] => { results := [.lit (.bool false)], args := [d1, d2, d3] }
  | _ => none }
def LetterUnlikeWrongFalsely : Prop := letterUnlikeRow.holds Try.pinned (OpenSpec.ofChange letterUnlikeWrong)

/- THE SECOND FORM. 'bulk': how many values and letters a reading holds, each counted each time it is reached (what is shared counts as often as it is met; a slice's spare places count too). A statement '..UptoSaid' is the law's where the arguments, and the package variables that the reading takes, are together of bulk at most 1048576: NARROWER than '..Said'. Prove '..Said' where nothing that the law and all that it calls make is longer than what came in: it says more and counts as full. Else prove '..UptoSaid'. A law counts once. -/
mutual
def uptoBulk {H : Type} : DataW H → Nat
  | .lit (.string bytes) => bytes.length + 1
  | .lit _ => 1
  | .nil => 1
  | .ptr d => uptoBulk d + 1
  | .slice elems spare => uptoBulkAll elems + uptoBulkAll spare + 1
  | .agg parts => uptoBulkAll parts + 1
  | .iface _ d => uptoBulk d + 1
  | .map entries => uptoBulkEntries entries + 1
  | .held _ => 1
def uptoBulkAll {H : Type} : List (DataW H) → Nat
  | [] => 0
  | d :: r => uptoBulk d + uptoBulkAll r
def uptoBulkEntries {H : Type} : List (Lit × DataW H) → Nat
  | [] => 0
  | x :: r => uptoBulkEntry x + uptoBulkEntries r
def uptoBulkEntry {H : Type} : Lit × DataW H → Nat
  | (.string bytes, d) => bytes.length + uptoBulk d + 1
  | (_, d) => uptoBulk d + 1
 end
def uptoSmall : (H : Type) → List (DataW H) → Bool := fun _ ds => decide (uptoBulkAll ds ≤ 1048576)
def OpenSpec.upto (s : _root_.Go.ChangeSpec) : _root_.Go.OpenSpec := { _root_.Go.OpenSpec.ofChange s with cond := some uptoSmall }

/-- 'lagleashlaw11.LetterCalls', WHERE WHAT IT READS IS OF BULK AT MOST 1048576: true; the input reads as it did. -/
def letterCallsUptoRow : OpenClaim := { program := "ytcikgnbpcombpaa", sum := "585f1b322ddfc8150c20e3b66b6868d061acc3e24e0215731bcc9fe2a3395473", func := "lagleash/lagleashlaw11.LetterCalls", spec := "letterCalls", unfollowed := true, recurses := true, apart := false, narrowed := true }
def LetterCallsUptoSaid : Prop := letterCallsUptoRow.holds Try.pinned (OpenSpec.upto letterCallsSpec)

/-- 'lagleashlaw11.LetterNames', WHERE WHAT IT READS IS OF BULK AT MOST 1048576: true; the input reads as it did. -/
def letterNamesUptoRow : OpenClaim := { program := "ytcikgnbpcombpaa", sum := "585f1b322ddfc8150c20e3b66b6868d061acc3e24e0215731bcc9fe2a3395473", func := "lagleash/lagleashlaw11.LetterNames", spec := "letterNames", unfollowed := true, recurses := true, apart := false, narrowed := true }
def LetterNamesUptoSaid : Prop := letterNamesUptoRow.holds Try.pinned (OpenSpec.upto letterNamesSpec)

/-- 'lagleashlaw11.LetterReads', WHERE WHAT IT READS IS OF BULK AT MOST 1048576: true; the input reads as it did. -/
def letterReadsUptoRow : OpenClaim := { program := "ytcikgnbpcombpaa", sum := "585f1b322ddfc8150c20e3b66b6868d061acc3e24e0215731bcc9fe2a3395473", func := "lagleash/lagleashlaw11.LetterReads", spec := "letterReads", unfollowed := true, recurses := true, apart := false, narrowed := true }
def LetterReadsUptoSaid : Prop := letterReadsUptoRow.holds Try.pinned (OpenSpec.upto letterReadsSpec)

/-- 'lagleashlaw11.LetterBack', WHERE WHAT IT READS IS OF BULK AT MOST 1048576: true; the input reads as it did. -/
def letterBackUptoRow : OpenClaim := { program := "ytcikgnbpcombpaa", sum := "585f1b322ddfc8150c20e3b66b6868d061acc3e24e0215731bcc9fe2a3395473", func := "lagleash/lagleashlaw11.LetterBack", spec := "letterBack", unfollowed := true, recurses := true, apart := false, narrowed := true }
def LetterBackUptoSaid : Prop := letterBackUptoRow.holds Try.pinned (OpenSpec.upto letterBackSpec)

/-- 'lagleashlaw11.LetterUnlike', WHERE WHAT IT READS IS OF BULK AT MOST 1048576: true; the input reads as it did. -/
def letterUnlikeUptoRow : OpenClaim := { program := "ytcikgnbpcombpaa", sum := "585f1b322ddfc8150c20e3b66b6868d061acc3e24e0215731bcc9fe2a3395473", func := "lagleash/lagleashlaw11.LetterUnlike", spec := "letterUnlike", unfollowed := true, recurses := true, apart := false, narrowed := true }
def LetterUnlikeUptoSaid : Prop := letterUnlikeUptoRow.holds Try.pinned (OpenSpec.upto letterUnlikeSpec)

end Rows
end Go.Proofs.Ytcikgnbpcombpaa
