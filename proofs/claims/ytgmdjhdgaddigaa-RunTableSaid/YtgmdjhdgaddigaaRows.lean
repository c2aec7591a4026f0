/-
  No cell of these rows narrows 'for every input' (looked for: loops, veiled, ifaces, maps, wideKeys, modest, calm, conditions, laid).
  DERIVED. THE GIVEN ROWS OF THIS SEAT. 5 by the template 'for every input the law returns true; each argument reads behind the call as it read before'; 0 by the template 'total and deterministic' (their statements: YtgmdjhdgaddigaaTotals.lean).
  GIVEN WITH THE SEED: the statements are not yours to turn. If you find one false, say at which input.
  Laid BY PROGRAM, IN A SANDBOX (cutbox-rows.mjs): the forced cells as the released guide's own fill.sh prints them over the translation 2c8a406a18709b3d… (all of the seat's roots in one cut). By AI agents, Wed Nov 11 2026. No macro, syntax, notation, axiom, sorry.
-/
import Derived.Test.YtgmdjhdgaddigaaChecked
import GoSem.Claim
import GoSem.ClaimJoined
import GoSem.ClaimMapViews
import Derived.JoinedTies
import Derived.KernelRfl
namespace Go.Proofs.Ytgmdjhdgaddigaa
/- THE CELL 'sum', in the pinned program and in every row, IS THE sha256 OF THE DUMP (.gsa) THAT YtgmdjhdgaddigaaProg.lean LOADS. Nothing in Lean hashes anything: it is a label: what it is worth is what the hold of that sum in a sandbox is worth. -/
noncomputable def Try.pinned : Pinned := { name := "ytgmdjhdgaddigaa", sum := "2c8a406a18709b3d50d88f503836d22e42fbe1e55e2529cc0d9a63ea53d3384f", checked := Try.checked }
namespace Rows
def none {H : Type} : Left H := { results := [], args := [] }

/-- 'lagleashlaw13.RunNames': WHATEVER THE INPUT: true; the input reads as it did. -/
def runNamesSpec : ChangeSpec := { name := "runNames", fn := fun _ => fun
  | [] => { results := [.lit (.bool true)], args := [] }
  | _ => none }
def runNamesRow : OpenClaim := { program := "ytgmdjhdgaddigaa", sum := "2c8a406a18709b3d50d88f503836d22e42fbe1e55e2529cc0d9a63ea53d3384f", func := "lagleash/lagleashlaw13.RunNames", spec := "runNames", unfollowed := true, recurses := true, apart := false }
def RunNamesSaid : Prop := runNamesRow.holds Try.pinned (OpenSpec.ofChange runNamesSpec)

/-- ITS FALSE NEIGHBOUR: 'it returns false'. Refute it at one input. -/
def runNamesWrong : ChangeSpec := { name := "runNames", fn := fun _ => fun
  | [] => { results := [.lit (.bool false)], args := [] }
  | _ => none }
def RunNamesWrongFalsely : Prop := runNamesRow.holds Try.pinned (OpenSpec.ofChange runNamesWrong)

/-- 'lagleashlaw13.RunCalls': WHATEVER THE INPUT: true; the input reads as it did. -/
def runCallsSpec : ChangeSpec := { name := "runCalls", fn := fun _ => fun
  | [d1, d2] => { results := [.lit (.bool true)], args := [d1, d2] }
  | _ => none }
def runCallsRow : OpenClaim := { program := "ytgmdjhdgaddigaa", sum := "2c8a406a18709b3d50d88f503836d22e42fbe1e55e2529cc0d9a63ea53d3384f", func := "lagleash/lagleashlaw13.RunCalls", spec := "runCalls", unfollowed := true, recurses := true, apart := false }
def RunCallsSaid : Prop := runCallsRow.holds Try.pinned (OpenSpec.ofChange runCallsSpec)

/-- ITS FALSE NEIGHBOUR: 'it returns false'. Refute it at one input. -/
def runCallsWrong : ChangeSpec := { name := "runCalls", fn := fun _ => fun
  | [d1, d2] => { results := [.lit (.bool false)], args := [d1, d2] }
  | _ => none }
def RunCallsWrongFalsely : Prop := runCallsRow.holds Try.pinned (OpenSpec.ofChange runCallsWrong)

/-- 'lagleashlaw13.RunNil': WHATEVER THE INPUT: true; the input reads as it did. -/
def runNilSpec : ChangeSpec := { name := "runNil", fn := fun _ => fun
  | [d1, d2] => { results := [.lit (.bool true)], args := [d1, d2] }
  | _ => none }
def runNilRow : OpenClaim := { program := "ytgmdjhdgaddigaa", sum := "2c8a406a18709b3d50d88f503836d22e42fbe1e55e2529cc0d9a63ea53d3384f", func := "lagleash/lagleashlaw13.RunNil", spec := "runNil", unfollowed := true, recurses := true, apart := false }
def RunNilSaid : Prop := runNilRow.holds Try.pinned (OpenSpec.ofChange runNilSpec)

/-- ITS FALSE NEIGHBOUR: 'it returns false'. Refute it at one input. -/
def runNilWrong : ChangeSpec := { name := "runNil", fn := fun _ => fun
  | [d1, d2] => { results := [.lit (.bool false)], args := [d1, d2] }
  | _ => none }
def RunNilWrongFalsely : Prop := runNilRow.holds Try.pinned (OpenSpec.ofChange runNilWrong)

/-- 'lagleashlaw13.RunKeeps': WHATEVER THE INPUT: true; the input reads as it did. -/
def runKeepsSpec : ChangeSpec := { name := "runKeeps", fn := fun _ => fun
  | [d1, d2, d3, d4] => { results := [.lit (.bool true)], args := [d1, d2, d3, d4] }
  | _ => none }
def runKeepsRow : OpenClaim := { program := "ytgmdjhdgaddigaa", sum := "2c8a406a18709b3d50d88f503836d22e42fbe1e55e2529cc0d9a63ea53d3384f", func := "lagleash/lagleashlaw13.RunKeeps", spec := "runKeeps", unfollowed := true, recurses := true, apart := false }
def RunKeepsSaid : Prop := runKeepsRow.holds Try.pinned (OpenSpec.ofChange runKeepsSpec)

/-- ITS FALSE NEIGHBOUR: 'it returns false'. Refute it at one input. -/
def runKeepsWrong : ChangeSpec := { name := "runKeeps", fn := fun _ => fun
  | [d1, d2, d3, d4] => { results := [.lit (.bool false)], args := [d1, d2, d3, d4] }
  | _ => none }
def RunKeepsWrongFalsely : Prop := runKeepsRow.holds Try.pinned (OpenSpec.ofChange runKeepsWrong)

/-- 'lagleashlaw13.RunTable': WHATEVER THE INPUT: true; the input reads as it did. -/
def runTableSpec : ChangeSpec := { name := "runTable", fn := fun _ => fun
  | [d1, d2, d3, d4] => { results := [.lit (.bool true)], args := [d1, d2, d3, d4] }
  | _ => none }
def runTableRow : OpenClaim := { program := "ytgmdjhdgaddigaa", sum := "2c8a406a18709b3d50d88f503836d22e42fbe1e55e2529cc0d9a63ea53d3384f", func := "lagleash/lagleashlaw13.RunTable", spec := "runTable", unfollowed := true, recurses := true, apart := false }
def RunTableSaid : Prop := runTableRow.holds Try.pinned (OpenSpec.ofChange runTableSpec)

/-- ITS FALSE NEIGHBOUR: 'it returns false'. Refute it at one input. -/
def runTableWrong : ChangeSpec := { name := "runTable", fn := fun _ => fun
  | [d1, d2, d3, d4] => { results := [.lit (.bool false)], args := [d1, d2, d3, d4] }
  | _ => none }
def RunTableWrongFalsely : Prop := runTableRow.holds Try.pinned (OpenSpec.ofChange runTableWrong)

/- THE SECOND FORM. 'bulk': how many values and letters a reading holds, each counted each time it is reached (what is shared counts as often as it is met; a slice's spare places count too). A statement '..UptoSaid' is the law's where the arguments, and the package variables that the reading takes, are together of bulk at most 1048576: NARROWER than '..Said'. Prove '..Said' where nothing that the law and all that it calls make is longer than what came in: it says more and counts as full. Else prove '..UptoSaid'. A law counts once. -/
mutual
def uptoBulk {H : Type} : DataW H → Nat
  | .lit (.string bytes) => bytes.length + 1
  | .lit _ => 1
  | .nil => 1
  | .ptr d => uptoBulk d + 1
  | .slice elems spare => uptoBulkAll elems + uptoBulkAll spare + 1
  | .agg parts => uptoBulkAll parts + 1
  | .iface _ d => uptoBulk d + 1
  | .map entries => uptoBulkEntries entries + 1
  | .held _ => 1
def uptoBulkAll {H : Type} : List (DataW H) → Nat
  | [] => 0
  | d :: r => uptoBulk d + uptoBulkAll r
def uptoBulkEntries {H : Type} : List (Lit × DataW H) → Nat
  | [] => 0
  | x :: r => uptoBulkEntry x + uptoBulkEntries r
def uptoBulkEntry {H : Type} : Lit × DataW H → Nat
  | (.string bytes, d) => bytes.length + uptoBulk d + 1
  | (_, d) => uptoBulk d + 1
 end
def uptoSmall : (H : Type) → List (DataW H) → Bool := fun _ ds => decide (uptoBulkAll ds ≤ 1048576)
def OpenSpec.upto (s : _root_.Go.ChangeSpec) : _root_.Go.OpenSpec := { _root_.Go.OpenSpec.ofChange s with cond := some uptoSmall }

/-- 'lagleashlaw13.RunNames', WHERE WHAT IT READS IS OF BULK AT MOST 1048576: true; the input reads as it did. -/
def runNamesUptoRow : OpenClaim := { program := "ytgmdjhdgaddigaa", sum := "2c8a406a18709b3d50d88f503836d22e42fbe1e55e2529cc0d9a63ea53d3384f", func := "lagleash/lagleashlaw13.RunNames", spec := "runNames", unfollowed := true, recurses := true, apart := false, narrowed := true }
def RunNamesUptoSaid : Prop := runNamesUptoRow.holds Try.pinned (OpenSpec.upto runNamesSpec)

/-- 'lagleashlaw13.RunCalls', WHERE WHAT IT READS IS OF BULK AT MOST 1048576: true; the input reads as it did. -/
def runCallsUptoRow : OpenClaim := { program := "ytgmdjhdgaddigaa", sum := "2c8a406a18709b3d50d88f503836d22e42fbe1e55e2529cc0d9a63ea53d3384f", func := "lagleash/lagleashlaw13.RunCalls", spec := "runCalls", unfollowed := true, recurses := true, apart := false, narrowed := true }
def RunCallsUptoSaid : Prop := runCallsUptoRow.holds Try.pinned (OpenSpec.upto runCallsSpec)

/-- 'lagleashlaw13.RunNil', WHERE WHAT IT READS IS OF BULK AT MOST 1048576: true; the input reads as it did. -/
def runNilUptoRow : OpenClaim := { program := "ytgmdjhdgaddigaa", sum := "2c8a406a18709b3d50d88f503836d22e42fbe1e55e2529cc0d9a63ea53d3384f", func := "lagleash/lagleashlaw13.RunNil", spec := "runNil", unfollowed := true, recurses := true, apart := false, narrowed := true }
def RunNilUptoSaid : Prop := runNilUptoRow.holds Try.pinned (OpenSpec.upto runNilSpec)

/-- 'lagleashlaw13.RunKeeps', WHERE WHAT IT READS IS OF BULK AT MOST 1048576: true; the input reads as it did. -/
def runKeepsUptoRow : OpenClaim := { program := "ytgmdjhdgaddigaa", sum := "2c8a406a18709b3d50d88f503836d22e42fbe1e55e2529cc0d9a63ea53d3384f", func := "lagleash/lagleashlaw13.RunKeeps", spec := "runKeeps", unfollowed := true, recurses := true, apart := false, narrowed := true }
def RunKeepsUptoSaid : Prop := runKeepsUptoRow.holds Try.pinned (OpenSpec.upto runKeepsSpec)

/-- 'lagleashlaw13.RunTable', WHERE WHAT IT READS IS OF BULK AT MOST 1048576: true; the input reads as it did. -/
def runTableUptoRow : OpenClaim := { program := "ytgmdjhdgaddigaa", sum := "2c8a406a18709b3d50d88f503836d22e42fbe1e55e2529cc0d9a63ea53d3384f", func := "lagleash/lagleashlaw13.RunTable", spec := "runTable", unfollowed := true, recurses := true, apart := false, narrowed := true }
def RunTableUptoSaid : Prop := runTableUptoRow.holds Try.pinned (OpenSpec.upto runTableSpec)

end Rows
end Go.Proofs.Ytgmdjhdgaddigaa
