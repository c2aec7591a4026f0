/-
  No cell of these rows narrows 'for every input' (looked for: loops, veiled, ifaces, maps, wideKeys, modest, calm, conditions, laid).
  DERIVED. THE GIVEN ROWS OF THIS SEAT. 5 by the template 'for every input the law returns true; each argument reads behind the call as it read before'; 0 by the template 'total and deterministic' (their statements: YtbjkfnnabnacfaaTotals.lean).
  GIVEN WITH THE SEED: the statements are not yours to turn. If you find one false, say at which input.
  Laid BY PROGRAM, IN A SANDBOX (cutbox-rows.mjs): the forced cells as the released guide's own fill.sh prints them over the translation 3f252bb1792b502e… (all of the seat's roots in one cut). By AI agents, Wed Nov 11 2026. No macro, syntax, notation, axiom, sorry.
-/
import Derived.Test.YtbjkfnnabnacfaaChecked
import GoSem.Claim
import GoSem.ClaimJoined
import GoSem.ClaimMapViews
import Derived.JoinedTies
import Derived.KernelRfl
namespace Go.Proofs.Ytbjkfnnabnacfaa
/- THE CELL 'sum', in the pinned program and in every row, IS THE sha256 OF THE DUMP (.gsa) THAT YtbjkfnnabnacfaaProg.lean LOADS. Nothing in Lean hashes anything: it is a label: what it is worth is what the hold of that sum in a sandbox is worth. -/
noncomputable def Try.pinned : Pinned := { name := "ytbjkfnnabnacfaa", sum := "3f252bb1792b502e1f8490083b2670474fd18a336142884bacc15f20f4aaf067", checked := Try.checked }
namespace Rows
def none {H : Type} : Left H := { results := [], args := [] }

/-- 'lagleashlaw19.OrphanNames': WHATEVER THE INPUT: true; the input reads as it did. -/
def orphanNamesSpec : ChangeSpec := { name := "orphanNames", fn := fun _ => fun
  | [] => { results := [.lit (.bool true)], args := [] }
  | _ => none }
def orphanNamesRow : OpenClaim := { program := "ytbjkfnnabnacfaa", sum := "3f252bb1792b502e1f8490083b2670474fd18a336142884bacc15f20f4aaf067", func := "lagleash/lagleashlaw19.OrphanNames", spec := "orphanNames", apart := false }
def OrphanNamesSaid : Prop := orphanNamesRow.holds Try.pinned (OpenSpec.ofChange orphanNamesSpec)

/-- ITS FALSE NEIGHBOUR: 'it returns false'. Refute it at one input. -/
def orphanNamesWrong : ChangeSpec := { name := "orphanNames", fn := fun _ => fun
  | [] => { results := [.lit (.bool false)], args := [] }
  | _ => none }
def OrphanNamesWrongFalsely : Prop := orphanNamesRow.holds Try.pinned (OpenSpec.ofChange orphanNamesWrong)

/-- 'lagleashlaw19.OrphanCalls': WHATEVER THE INPUT: true; the input reads as it did. -/
def orphanCallsSpec : ChangeSpec := { name := "orphanCalls", fn := fun _ => fun
  | [d1, d2, d3, d4] => { results := [.lit (.bool true)], args := [d1, d2, d3, d4] }
  | _ => none }
def orphanCallsRow : OpenClaim := { program := "ytbjkfnnabnacfaa", sum := "3f252bb1792b502e1f8490083b2670474fd18a336142884bacc15f20f4aaf067", func := "lagleash/lagleashlaw19.OrphanCalls", spec := "orphanCalls", apart := false }
def OrphanCallsSaid : Prop := orphanCallsRow.holds Try.pinned (OpenSpec.ofChange orphanCallsSpec)

/-- ITS FALSE NEIGHBOUR: 'it returns false'. Refute it at one input. -/
def orphanCallsWrong : ChangeSpec := { name := "orphanCalls", fn := fun _ => fun
  | [d1, d2, d3, d4] => { results := [.lit (.bool false)], args := [d1, d2, d3, d4] }
  | _ => none }
def OrphanCallsWrongFalsely : Prop := orphanCallsRow.holds Try.pinned (OpenSpec.ofChange orphanCallsWrong)

/-- 'lagleashlaw19.OrphanFile': WHATEVER THE INPUT: true; the input reads as it did. -/
def orphanFileSpec : ChangeSpec := { name := "orphanFile", fn := fun _ => fun
  | [d1, d2, d3] => { results := [.lit (.bool true)], args := [d1, d2, d3] }
  | _ => none }
def orphanFileRow : OpenClaim := { program := "ytbjkfnnabnacfaa", sum := "3f252bb1792b502e1f8490083b2670474fd18a336142884bacc15f20f4aaf067", func := "lagleash/lagleashlaw19.OrphanFile", spec := "orphanFile", apart := false }
def OrphanFileSaid : Prop := orphanFileRow.holds Try.pinned (OpenSpec.ofChange orphanFileSpec)

/-- ITS FALSE NEIGHBOUR: 'it returns false'. Refute it at one input. -/
def orphanFileWrong : ChangeSpec := { name := "orphanFile", fn := fun _ => fun
  | [d1, d2, d3] => { results := [.lit (.bool false)], args := [d1, d2, d3] }
  | _ => none }
def OrphanFileWrongFalsely : Prop := orphanFileRow.holds Try.pinned (OpenSpec.ofChange orphanFileWrong)

/-- 'lagleashlaw19.OrphanTorn': WHATEVER THE INPUT: true; the input reads as it did. -/
def orphanTornSpec : ChangeSpec := { name := "orphanTorn", fn := fun _ => fun
  | [d1, d2, d3, d4, d5] => { results := [.lit (.bool true)], args := [d1, d2, d3, d4, d5] }
  | _ => none }
def orphanTornRow : OpenClaim := { program := "ytbjkfnnabnacfaa", sum := "3f252bb1792b502e1f8490083b2670474fd18a336142884bacc15f20f4aaf067", func := "lagleash/lagleashlaw19.OrphanTorn", spec := "orphanTorn", apart := false }
def OrphanTornSaid : Prop := orphanTornRow.holds Try.pinned (OpenSpec.ofChange orphanTornSpec)

/-- ITS FALSE NEIGHBOUR: 'it returns false'. Refute it at one input. -/
def orphanTornWrong : ChangeSpec := { name := "orphanTorn", fn := fun _ => fun
  | [d1, d2, d3, d4, d5] => { results := [.lit (.bool false)], args := [d1, d2, d3, d4, d5] }
  | _ => none }
def OrphanTornWrongFalsely : Prop := orphanTornRow.holds Try.pinned (OpenSpec.ofChange orphanTornWrong)

/-- 'lagleashlaw19.OrphanWrite': WHATEVER THE INPUT: true; the input reads as it did. -/
def orphanWriteSpec : ChangeSpec := { name := "orphanWrite", fn := fun _ => fun
  | [d1, d2, d3, d4, d5, d6] => { results := [.lit (.bool true)], args := [d1, d2, d3, d4, d5, d6] }
  | _ => none }
def orphanWriteRow : OpenClaim := { program := "ytbjkfnnabnacfaa", sum := "3f252bb1792b502e1f8490083b2670474fd18a336142884bacc15f20f4aaf067", func := "lagleash/lagleashlaw19.OrphanWrite", spec := "orphanWrite", apart := false }
def OrphanWriteSaid : Prop := orphanWriteRow.holds Try.pinned (OpenSpec.ofChange orphanWriteSpec)

/-- ITS FALSE NEIGHBOUR: 'it returns false'. Refute it at one input. -/
def orphanWriteWrong : ChangeSpec := { name := "orphanWrite", fn := fun _ => fun
  | [d1, d2, d3, d4, d5, d6] => { results := [.lit (.bool false)], args := [d1, d2, d3, d4, d5, d6] }
  | _ => none }
def OrphanWriteWrongFalsely : Prop := orphanWriteRow.holds Try.pinned (OpenSpec.ofChange orphanWriteWrong)

/- THE SECOND FORM. 'bulk': how many values and letters a reading holds, each counted each time it is reached (what is shared counts as often as it is met; a slice's spare places count too). A statement '..UptoSaid' is the law's where the arguments, and the package variables that the reading takes, are together of bulk at most 1048576: NARROWER than '..Said'. Prove '..Said' where nothing that the law and all that it calls make is longer than what came in: it says more and counts as full. Else prove '..UptoSaid'. A law counts once. -/
mutual
def uptoBulk {H : Type} : DataW H → Nat
  | .lit (.string bytes) => bytes.length + 1
  | .lit _ => 1
  | .nil => 1
  | .ptr d => uptoBulk d + 1
  | .slice elems spare => uptoBulkAll elems + uptoBulkAll spare + 1
  | .agg parts => uptoBulkAll parts + 1
  | .iface _ d => uptoBulk d + 1
  | .map entries => uptoBulkEntries entries + 1
  | .held _ => 1
def uptoBulkAll {H : Type} : List (DataW H) → Nat
  | [] => 0
  | d :: r => uptoBulk d + uptoBulkAll r
def uptoBulkEntries {H : Type} : List (Lit × DataW H) → Nat
  | [] => 0
  | x :: r => uptoBulkEntry x + uptoBulkEntries r
def uptoBulkEntry {H : Type} : Lit × DataW H → Nat
  | (.string bytes, d) => bytes.length + uptoBulk d + 1
  | (_, d) => uptoBulk d + 1
 end
def uptoSmall : (H : Type) → List (DataW H) → Bool := fun _ ds => decide (uptoBulkAll ds ≤ 1048576)
def OpenSpec.upto (s : _root_.Go.ChangeSpec) : _root_.Go.OpenSpec := { _root_.Go.OpenSpec.ofChange s with cond := some uptoSmall }

/-- 'lagleashlaw19.OrphanNames', WHERE WHAT IT READS IS OF BULK AT MOST 1048576: true; the input reads as it did. -/
def orphanNamesUptoRow : OpenClaim := { program := "ytbjkfnnabnacfaa", sum := "3f252bb1792b502e1f8490083b2670474fd18a336142884bacc15f20f4aaf067", func := "lagleash/lagleashlaw19.OrphanNames", spec := "orphanNames", apart := false, narrowed := true }
def OrphanNamesUptoSaid : Prop := orphanNamesUptoRow.holds Try.pinned (OpenSpec.upto orphanNamesSpec)

/-- 'lagleashlaw19.OrphanCalls', WHERE WHAT IT READS IS OF BULK AT MOST 1048576: true; the input reads as it did. -/
def orphanCallsUptoRow : OpenClaim := { program := "ytbjkfnnabnacfaa", sum := "3f252bb1792b502e1f8490083b2670474fd18a336142884bacc15f20f4aaf067", func := "lagleash/lagleashlaw19.OrphanCalls", spec := "orphanCalls", apart := false, narrowed := true }
def OrphanCallsUptoSaid : Prop := orphanCallsUptoRow.holds Try.pinned (OpenSpec.upto orphanCallsSpec)

/-- 'lagleashlaw19.OrphanFile', WHERE WHAT IT READS IS OF BULK AT MOST 1048576: true; the input reads as it did. -/
def orphanFileUptoRow : OpenClaim := { program := "ytbjkfnnabnacfaa", sum := "3f252bb1792b502e1f8490083b2670474fd18a336142884bacc15f20f4aaf067", func := "lagleash/lagleashlaw19.OrphanFile", spec := "orphanFile", apart := false, narrowed := true }
def OrphanFileUptoSaid : Prop := orphanFileUptoRow.holds Try.pinned (OpenSpec.upto orphanFileSpec)

/-- 'lagleashlaw19.OrphanTorn', WHERE WHAT IT READS IS OF BULK AT MOST 1048576: true; the input reads as it did. -/
def orphanTornUptoRow : OpenClaim := { program := "ytbjkfnnabnacfaa", sum := "3f252bb1792b502e1f8490083b2670474fd18a336142884bacc15f20f4aaf067", func := "lagleash/lagleashlaw19.OrphanTorn", spec := "orphanTorn", apart := false, narrowed := true }
def OrphanTornUptoSaid : Prop := orphanTornUptoRow.holds Try.pinned (OpenSpec.upto orphanTornSpec)

/-- 'lagleashlaw19.OrphanWrite', WHERE WHAT IT READS IS OF BULK AT MOST 1048576: true; the input reads as it did. -/
def orphanWriteUptoRow : OpenClaim := { program := "ytbjkfnnabnacfaa", sum := "3f252bb1792b502e1f8490083b2670474fd18a336142884bacc15f20f4aaf067", func := "lagleash/lagleashlaw19.OrphanWrite", spec := "orphanWrite", apart := false, narrowed := true }
def OrphanWriteUptoSaid : Prop := orphanWriteUptoRow.holds Try.pinned (OpenSpec.upto orphanWriteSpec)

end Rows
end Go.Proofs.Ytbjkfnnabnacfaa
