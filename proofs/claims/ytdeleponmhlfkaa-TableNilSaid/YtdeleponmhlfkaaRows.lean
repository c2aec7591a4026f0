/-
  No cell of these rows narrows 'for every input' (looked for: loops, veiled, ifaces, maps, wideKeys, modest, calm, conditions, laid).
  DERIVED. THE GIVEN ROWS OF THIS SEAT. 5 by the template 'for every input the law returns true; each argument reads behind the call as it read before'; 0 by the template 'total and deterministic' (their statements: YtdeleponmhlfkaaTotals.lean).
  GIVEN WITH THE SEED: the statements are not yours to turn. If you find one false, say at which input.
  Laid BY PROGRAM, IN A SANDBOX (cutbox-rows.mjs): the forced cells as the released guide's own fill.sh prints them over the translation 613e8f2f37b5d314… (all of the seat's roots in one cut). By AI agents, Wed Nov 11 2026. No macro, syntax, notation, axiom, sorry.
-/
import Derived.Test.YtdeleponmhlfkaaChecked
import GoSem.Claim
import GoSem.ClaimJoined
import GoSem.ClaimMapViews
import Derived.JoinedTies
import Derived.KernelRfl
namespace Go.Proofs.Ytdeleponmhlfkaa
/- THE CELL 'sum', in the pinned program and in every row, IS THE sha256 OF THE DUMP (.gsa) THAT YtdeleponmhlfkaaProg.lean LOADS. Nothing in Lean hashes anything: it is a label: what it is worth is what the hold of that sum in a sandbox is worth. -/
noncomputable def Try.pinned : Pinned := { name := "ytdeleponmhlfkaa", sum := "613e8f2f37b5d314a980254b996fb5bcc4ce06d5626437f72c51ec9984e2f73d", checked := Try.checked }
namespace Rows
def none {H : Type} : Left H := { results := [], args := [] }

/-- 'lagleashlaw07.TableScript': WHATEVER THE INPUT: true; the input reads as it did. -/
def tableScriptSpec : ChangeSpec := { name := "tableScript", fn := fun _ => fun
  | [d1, d2, d3] => { results := [.lit (.bool true)], args := [d1, d2, d3] }
  | _ => none }
def tableScriptRow : OpenClaim := { program := "ytdeleponmhlfkaa", sum := "613e8f2f37b5d314a980254b996fb5bcc4ce06d5626437f72c51ec9984e2f73d", func := "lagleash/lagleashlaw07.TableScript", spec := "tableScript", unfollowed := true, recurses := true, apart := false }
def TableScriptSaid : Prop := tableScriptRow.holds Try.pinned (OpenSpec.ofChange tableScriptSpec)

/-- ITS FALSE NEIGHBOUR: 'it returns false'. Refute it at one input. -/
def tableScriptWrong : ChangeSpec := { name := "tableScript", fn := fun _ => fun
  | [d1, d2, d3] => { results := [.lit (.bool false)], args := [d1, d2, d3] }
  | _ => none }
def TableScriptWrongFalsely : Prop := tableScriptRow.holds Try.pinned (OpenSpec.ofChange tableScriptWrong)

/-- 'lagleashlaw07.TableOrder': WHATEVER THE INPUT: true; the input reads as it did. -/
def tableOrderSpec : ChangeSpec := { name := "tableOrder", fn := fun _ => fun
  | [d1, d2] => { results := [.lit (.bool true)], args := [d1, d2] }
  | _ => none }
def tableOrderRow : OpenClaim := { program := "ytdeleponmhlfkaa", sum := "613e8f2f37b5d314a980254b996fb5bcc4ce06d5626437f72c51ec9984e2f73d", func := "lagleash/lagleashlaw07.TableOrder", spec := "tableOrder", unfollowed := true, recurses := true, apart := false }
def TableOrderSaid : Prop := tableOrderRow.holds Try.pinned (OpenSpec.ofChange tableOrderSpec)

/-- ITS FALSE NEIGHBOUR: 'it returns false'. Refute it at one input. -/
def tableOrderWrong : ChangeSpec := { name := "tableOrder", fn := fun _ => fun
  | [d1, d2] => { results := [.lit (.bool false)], args := [d1, d2] }
  | _ => none }
def TableOrderWrongFalsely : Prop := tableOrderRow.holds Try.pinned (OpenSpec.ofChange tableOrderWrong)

/-- 'lagleashlaw07.TableFold': WHATEVER THE INPUT: true; the input reads as it did. -/
def tableFoldSpec : ChangeSpec := { name := "tableFold", fn := fun _ => fun
  | [d1, d2] => { results := [.lit (.bool true)], args := [d1, d2] }
  | _ => none }
def tableFoldRow : OpenClaim := { program := "ytdeleponmhlfkaa", sum := "613e8f2f37b5d314a980254b996fb5bcc4ce06d5626437f72c51ec9984e2f73d", func := "lagleash/lagleashlaw07.TableFold", spec := "tableFold", unfollowed := true, recurses := true, apart := false }
def TableFoldSaid : Prop := tableFoldRow.holds Try.pinned (OpenSpec.ofChange tableFoldSpec)

/-- ITS FALSE NEIGHBOUR: 'it returns false'. Refute it at one input. -/
def tableFoldWrong : ChangeSpec := { name := "tableFold", fn := fun _ => fun
  | [d1, d2] => { results := [.lit (.bool false)], args := [d1, d2] }
  | _ => none }
def TableFoldWrongFalsely : Prop := tableFoldRow.holds Try.pinned (OpenSpec.ofChange tableFoldWrong)

/-- 'lagleashlaw07.TableNames': WHATEVER THE INPUT: true; the input reads as it did. -/
def tableNamesSpec : ChangeSpec := { name := "tableNames", fn := fun _ => fun
  | [] => { results := [.lit (.bool true)], args := [] }
  | _ => none }
def tableNamesRow : OpenClaim := { program := "ytdeleponmhlfkaa", sum := "613e8f2f37b5d314a980254b996fb5bcc4ce06d5626437f72c51ec9984e2f73d", func := "lagleash/lagleashlaw07.TableNames", spec := "tableNames", unfollowed := true, recurses := true, apart := false }
def TableNamesSaid : Prop := tableNamesRow.holds Try.pinned (OpenSpec.ofChange tableNamesSpec)

/-- ITS FALSE NEIGHBOUR: 'it returns false'. Refute it at one input. -/
def tableNamesWrong : ChangeSpec := { name := "tableNames", fn := fun _ => fun
  | [] => { results := [.lit (.bool false)], args := [] }
  | _ => none }
def TableNamesWrongFalsely : Prop := tableNamesRow.holds Try.pinned (OpenSpec.ofChange tableNamesWrong)

/-- 'lagleashlaw07.TableNil': WHATEVER THE INPUT: true; the input reads as it did. -/
def tableNilSpec : ChangeSpec := { name := "tableNil", fn := fun _ => fun
  | [d] => { results := [.lit (.bool true)], args := [d] }
  | _ => none }
def tableNilRow : OpenClaim := { program := "ytdeleponmhlfkaa", sum := "613e8f2f37b5d314a980254b996fb5bcc4ce06d5626437f72c51ec9984e2f73d", func := "lagleash/lagleashlaw07.TableNil", spec := "tableNil", unfollowed := true, recurses := true, apart := false }
def TableNilSaid : Prop := tableNilRow.holds Try.pinned (OpenSpec.ofChange tableNilSpec)

/-- ITS FALSE NEIGHBOUR: 'it returns false'. Refute it at one input. -/
def tableNilWrong : ChangeSpec := { name := "tableNil", fn := fun _ => fun
  | [d] => { results := [.lit (.bool false)], args := [d] }
  | _ => none }
def TableNilWrongFalsely : Prop := tableNilRow.holds Try.pinned (OpenSpec.ofChange tableNilWrong)

/- THE SECOND FORM. 'bulk': how many values and letters a reading holds, each counted each time it is reached (what is shared counts as often as it is met; a slice's spare places count too). A statement '..UptoSaid' is the law's where the arguments, and the package variables that the reading takes, are together of bulk at most 1048576: NARROWER than '..Said'. Prove '..Said' where nothing that the law and all that it calls make is longer than what came in: it says more and counts as full. Else prove '..UptoSaid'. A law counts once. -/
mutual
def uptoBulk {H : Type} : DataW H → Nat
  | .lit (.string bytes) => bytes.length + 1
  | .lit _ => 1
  | .nil => 1
  | .ptr d => uptoBulk d + 1
  | .slice elems spare => uptoBulkAll elems + uptoBulkAll spare + 1
  | .agg parts => uptoBulkAll parts + 1
  | .iface _ d => uptoBulk d + 1
  | .map entries => uptoBulkEntries entries + 1
  | .held _ => 1
def uptoBulkAll {H : Type} : List (DataW H) → Nat
  | [] => 0
  | d :: r => uptoBulk d + uptoBulkAll r
def uptoBulkEntries {H : Type} : List (Lit × DataW H) → Nat
  | [] => 0
  | x :: r => uptoBulkEntry x + uptoBulkEntries r
def uptoBulkEntry {H : Type} : Lit × DataW H → Nat
  | (.string bytes, d) => bytes.length + uptoBulk d + 1
  | (_, d) => uptoBulk d + 1
 end
def uptoSmall : (H : Type) → List (DataW H) → Bool := fun _ ds => decide (uptoBulkAll ds ≤ 1048576)
def OpenSpec.upto (s : _root_.Go.ChangeSpec) : _root_.Go.OpenSpec := { _root_.Go.OpenSpec.ofChange s with cond := some uptoSmall }

/-- 'lagleashlaw07.TableScript', WHERE WHAT IT READS IS OF BULK AT MOST 1048576: true; the input reads as it did. -/
def tableScriptUptoRow : OpenClaim := { program := "ytdeleponmhlfkaa", sum := "613e8f2f37b5d314a980254b996fb5bcc4ce06d5626437f72c51ec9984e2f73d", func := "lagleash/lagleashlaw07.TableScript", spec := "tableScript", unfollowed := true, recurses := true, apart := false, narrowed := true }
def TableScriptUptoSaid : Prop := tableScriptUptoRow.holds Try.pinned (OpenSpec.upto tableScriptSpec)

/-- 'lagleashlaw07.TableOrder', WHERE WHAT IT READS IS OF BULK AT MOST 1048576: true; the input reads as it did. -/
def tableOrderUptoRow : OpenClaim := { program := "ytdeleponmhlfkaa", sum := "613e8f2f37b5d314a980254b996fb5bcc4ce06d5626437f72c51ec9984e2f73d", func := "lagleash/lagleashlaw07.TableOrder", spec := "tableOrder", unfollowed := true, recurses := true, apart := false, narrowed := true }
def TableOrderUptoSaid : Prop := tableOrderUptoRow.holds Try.pinned (OpenSpec.upto tableOrderSpec)

/-- 'lagleashlaw07.TableFold', WHERE WHAT IT READS IS OF BULK AT MOST 1048576: true; the input reads as it did. -/
def tableFoldUptoRow : OpenClaim := { program := "ytdeleponmhlfkaa", sum := "613e8f2f37b5d314a980254b996fb5bcc4ce06d5626437f72c51ec9984e2f73d", func := "lagleash/lagleashlaw07.TableFold", spec := "tableFold", unfollowed := true, recurses := true, apart := false, narrowed := true }
def TableFoldUptoSaid : Prop := tableFoldUptoRow.holds Try.pinned (OpenSpec.upto tableFoldSpec)

/-- 'lagleashlaw07.TableNames', WHERE WHAT IT READS IS OF BULK AT MOST 1048576: true; the input reads as it did. -/
def tableNamesUptoRow : OpenClaim := { program := "ytdeleponmhlfkaa", sum := "613e8f2f37b5d314a980254b996fb5bcc4ce06d5626437f72c51ec9984e2f73d", func := "lagleash/lagleashlaw07.TableNames", spec := "tableNames", unfollowed := true, recurses := true, apart := false, narrowed := true }
def TableNamesUptoSaid : Prop := tableNamesUptoRow.holds Try.pinned (OpenSpec.upto tableNamesSpec)

/-- 'lagleashlaw07.TableNil', WHERE WHAT IT READS IS OF BULK AT MOST 1048576: true; the input reads as it did. -/
def tableNilUptoRow : OpenClaim := { program := "ytdeleponmhlfkaa", sum := "613e8f2f37b5d314a980254b996fb5bcc4ce06d5626437f72c51ec9984e2f73d", func := "lagleash/lagleashlaw07.TableNil", spec := "tableNil", unfollowed := true, recurses := true, apart := false, narrowed := true }
def TableNilUptoSaid : Prop := tableNilUptoRow.holds Try.pinned (OpenSpec.upto tableNilSpec)

end Rows
end Go.Proofs.Ytdeleponmhlfkaa
