/-
  No cell of these rows narrows 'for every input' (looked for: loops, veiled, ifaces, maps, wideKeys, modest, calm, conditions, laid).
  DERIVED. THE GIVEN ROWS OF THIS SEAT. 20 by the template 'for every input the law returns true; each argument reads behind the call as it read before'; 0 by the template 'total and deterministic' (their statements: YtfaknkkaegjdaaaTotals.lean).
  GIVEN WITH THE SEED: the statements are not yours to turn. If you find one false, say at which input.
  Laid BY PROGRAM, IN A SANDBOX (cutbox-rows.mjs): the forced cells as the released guide's own fill.sh prints them over the translation 97607a903d40e97c… (all of the seat's roots in one cut). By AI agents, Wed Nov 11 2026. No macro, syntax, notation, axiom, sorry.
-/
import Derived.Test.YtfaknkkaegjdaaaChecked
import GoSem.Claim
import GoSem.ClaimJoined
import GoSem.ClaimMapViews
import Derived.JoinedTies
import Derived.KernelRfl
namespace Go.Proofs.Ytfaknkkaegjdaaa
/- THE CELL 'sum', in the pinned program and in every row, IS THE sha256 OF THE DUMP (.gsa) THAT YtfaknkkaegjdaaaProg.lean LOADS. Nothing in Lean hashes anything: it is a label: what it is worth is what the hold of that sum in a sandbox is worth. -/
noncomputable def Try.pinned : Pinned := { name := "ytfaknkkaegjdaaa", sum := "97607a903d40e97ce8d3573f6e3a8e611f517a54b639ea81736af02fd0e3c626", checked := Try.checked }
namespace Rows
def none {H : Type} : Left H := { results := [], args := [] }

/-- 'lagleashlaw03.BatchNames': WHATEVER THE INPUT: true; the input reads as it did. -/
def batchNamesSpec : ChangeSpec := { name := "batchNames", fn := fun _ => fun
  | [] => { results := [.lit (.bool true)], args := [] }
  | _ => none }
def batchNamesRow : OpenClaim := { program := "ytfaknkkaegjdaaa", sum := "97607a903d40e97ce8d3573f6e3a8e611f517a54b639ea81736af02fd0e3c626", func := "lagleash/lagleashlaw03.BatchNames", spec := "batchNames", apart := false }
def BatchNamesSaid : Prop := batchNamesRow.holds Try.pinned (OpenSpec.ofChange batchNamesSpec)

/-- ITS FALSE NEIGHBOUR: 'it returns false'. Refute it at one input. -/
def batchNamesWrong : ChangeSpec := { name := "batchNames", fn := fun _ => fun
  | [] => { results := [.lit (.bool false)], args := [] }
  | _ => none }
def BatchNamesWrongFalsely : Prop := batchNamesRow.holds Try.pinned (OpenSpec.ofChange batchNamesWrong)

/-- 'lagleashlaw03.BatchCalls': WHATEVER THE INPUT: true; the input reads as it did. -/
def batchCallsSpec : ChangeSpec := { name := "batchCalls", fn := fun _ => fun
  | [d1, d2] => { results := [.lit (.bool true)], args := [d1, d2] }
  | _ => none }
def batchCallsRow : OpenClaim := { program := "ytfaknkkaegjdaaa", sum := "97607a903d40e97ce8d3573f6e3a8e611f517a54b639ea81736af02fd0e3c626", func := "lagleash/lagleashlaw03.BatchCalls", spec := "batchCalls", apart := false }
def BatchCallsSaid : Prop := batchCallsRow.holds Try.pinned (OpenSpec.ofChange batchCallsSpec)

/-- ITS FALSE NEIGHBOUR: 'it returns false'. Refute it at one input. -/
def batchCallsWrong : ChangeSpec := { name := "batchCalls", fn := fun _ => fun
  | [d1, d2] => { results := [.lit (.bool false)], args := [d1, d2] }
  | _ => none }
def BatchCallsWrongFalsely : Prop := batchCallsRow.holds Try.pinned (OpenSpec.ofChange batchCallsWrong)

/-- 'lagleashlaw03.BatchReads': WHATEVER THE INPUT: true; the input reads as it did. -/
def batchReadsSpec : ChangeSpec := { name := "batchReads", fn := fun _ => fun
  | [d] => { results := [.lit (.bool true)], args := [d] }
  | _ => none }
def batchReadsRow : OpenClaim := { program := "ytfaknkkaegjdaaa", sum := "97607a903d40e97ce8d3573f6e3a8e611f517a54b639ea81736af02fd0e3c626", func := "lagleash/lagleashlaw03.BatchReads", spec := "batchReads", apart := false }
def BatchReadsSaid : Prop := batchReadsRow.holds Try.pinned (OpenSpec.ofChange batchReadsSpec)

/-- ITS FALSE NEIGHBOUR: 'it returns false'. Refute it at one input. -/
def batchReadsWrong : ChangeSpec := { name := "batchReads", fn := fun _ => fun
  | [d] => { results := [.lit (.bool false)], args := [d] }
  | _ => none }
def BatchReadsWrongFalsely : Prop := batchReadsRow.holds Try.pinned (OpenSpec.ofChange batchReadsWrong)

/-- 'lagleashlaw03.BatchShared': WHATEVER THE INPUT: true; the input reads as it did. -/
def batchSharedSpec : ChangeSpec := { name := "batchShared", fn := fun _ => fun
  | [d1, d2, d3, d4] => { results := [.lit (.bool true)], args := [d1, d2, d3, d4] }
  | _ => none }
def batchSharedRow : OpenClaim := { program := "ytfaknkkaegjdaaa", sum := "97607a903d40e97ce8d3573f6e3a8e611f517a54b639ea81736af02fd0e3c626", func := "lagleash/lagleashlaw03.BatchShared", spec := "batchShared", apart := false }
def BatchSharedSaid : Prop := batchSharedRow.holds Try.pinned (OpenSpec.ofChange batchSharedSpec)

/-- ITS FALSE NEIGHBOUR: 'it returns false'. Refute it at one input. -/
def batchSharedWrong : ChangeSpec := { name := "batchShared", fn := fun _ => fun
  | [d1, d2, d3, d4] => { results := [.lit (.bool false)], args := [d1, d2, d3, d4] }
  | _ => none }
def BatchSharedWrongFalsely : Prop := batchSharedRow.holds Try.pinned (OpenSpec.ofChange batchSharedWrong)

/-- 'lagleashlaw03.BatchRow': WHATEVER THE INPUT: true; the input reads as it did. -/
def batchRowSpec : ChangeSpec := { name := "batchRow", fn := fun _ => fun
  | [d1, d2, d3] => { results := [.lit (.bool true)], args := [d1, d2, d3] }
  | _ => none }
def batchRowRow : OpenClaim := { program := "ytfaknkkaegjdaaa", sum := "97607a903d40e97ce8d3573f6e3a8e611f517a54b639ea81736af02fd0e3c626", func := "lagleash/lagleashlaw03.BatchRow", spec := "batchRow", apart := false }
def BatchRowSaid : Prop := batchRowRow.holds Try.pinned (OpenSpec.ofChange batchRowSpec)

/-- ITS FALSE NEIGHBOUR: 'it returns false'. Refute it at one input. -/
def batchRowWrong : ChangeSpec := { name := "batchRow", fn := fun _ => fun
  | [d1, d2, d3] => { results := [.lit (.bool false)], args := [d1, d2, d3] }
  | _ => none }
def BatchRowWrongFalsely : Prop := batchRowRow.holds Try.pinned (OpenSpec.ofChange batchRowWrong)

/-- 'lagleashlaw03.BatchBack': WHATEVER THE INPUT: true; the input reads as it did. -/
def batchBackSpec : ChangeSpec := { name := "batchBack", fn := fun _ => fun
  | [d1, d2] => { results := [.lit (.bool true)], args := [d1, d2] }
  | _ => none }
def batchBackRow : OpenClaim := { program := "ytfaknkkaegjdaaa", sum := "97607a903d40e97ce8d3573f6e3a8e611f517a54b639ea81736af02fd0e3c626", func := "lagleash/lagleashlaw03.BatchBack", spec := "batchBack", apart := false }
def BatchBackSaid : Prop := batchBackRow.holds Try.pinned (OpenSpec.ofChange batchBackSpec)

/-- ITS FALSE NEIGHBOUR: 'it returns false'. Refute it at one input. -/
def batchBackWrong : ChangeSpec := { name := "batchBack", fn := fun _ => fun
  | [d1, d2] => { results := [.lit (.bool false)], args := [d1, d2] }
  | _ => none }
def BatchBackWrongFalsely : Prop := batchBackRow.holds Try.pinned (OpenSpec.ofChange batchBackWrong)

/-- 'lagleashlaw04.CommitReads': WHATEVER THE INPUT: true; the input reads as it did. -/
def commitReadsSpec : ChangeSpec := { name := "commitReads", fn := fun _ => fun
  | [d] => { results := [.lit (.bool true)], args := [d] }
  | _ => none }
def commitReadsRow : OpenClaim := { program := "ytfaknkkaegjdaaa", sum := "97607a903d40e97ce8d3573f6e3a8e611f517a54b639ea81736af02fd0e3c626", func := "lagleash/lagleashlaw04.CommitReads", spec := "commitReads", apart := false }
def CommitReadsSaid : Prop := commitReadsRow.holds Try.pinned (OpenSpec.ofChange commitReadsSpec)

/-- ITS FALSE NEIGHBOUR: 'it returns false'. Refute it at one input. -/
def commitReadsWrong : ChangeSpec := { name := "commitReads", fn := fun _ => fun
  | [d] => { results := [.lit (.bool false)], args := [d] }
  | _ => none }
def CommitReadsWrongFalsely : Prop := commitReadsRow.holds Try.pinned (OpenSpec.ofChange commitReadsWrong)

/-- 'lagleashlaw04.CommitNames': WHATEVER THE INPUT: true; the input reads as it did. -/
def commitNamesSpec : ChangeSpec := { name := "commitNames", fn := fun _ => fun
  | [] => { results := [.lit (.bool true)], args := [] }
  | _ => none }
def commitNamesRow : OpenClaim := { program := "ytfaknkkaegjdaaa", sum := "97607a903d40e97ce8d3573f6e3a8e611f517a54b639ea81736af02fd0e3c626", func := "lagleash/lagleashlaw04.CommitNames", spec := "commitNames", apart := false }
def CommitNamesSaid : Prop := commitNamesRow.holds Try.pinned (OpenSpec.ofChange commitNamesSpec)

/-- ITS FALSE NEIGHBOUR: 'it returns false'. Refute it at one input. -/
def commitNamesWrong : ChangeSpec := { name := "commitNames", fn := fun _ => fun
  | [] => { results := [.lit (.bool false)], args := [] }
  | _ => none }
def CommitNamesWrongFalsely : Prop := commitNamesRow.holds Try.pinned (OpenSpec.ofChange commitNamesWrong)

/-- 'lagleashlaw04.CommitFollows': WHATEVER THE INPUT: true; the input reads as it did. -/
def commitFollowsSpec : ChangeSpec := { name := "commitFollows", fn := fun _ => fun
  | [d1, d2, d3] => { results := [.lit (.bool true)], args := [d1, d2, d3] }
  | _ => none }
def commitFollowsRow : OpenClaim := { program := "ytfaknkkaegjdaaa", sum := "97607a903d40e97ce8d3573f6e3a8e611f517a54b639ea81736af02fd0e3c626", func := "lagleash/lagleashlaw04.CommitFollows", spec := "commitFollows", apart := false }
def CommitFollowsSaid : Prop := commitFollowsRow.holds Try.pinned (OpenSpec.ofChange commitFollowsSpec)

/-- ITS FALSE NEIGHBOUR: 'it returns false'. Refute it at one input. -/
def commitFollowsWrong : ChangeSpec := { name := "commitFollows", fn := fun _ => fun
  | [d1, d2, d3] => { results := [.lit (.bool false)], args := [d1, d2, d3] }
  | _ => none }
def CommitFollowsWrongFalsely : Prop := commitFollowsRow.holds Try.pinned (OpenSpec.ofChange commitFollowsWrong)

/-- 'lagleashlaw04.CommitFirst': WHATEVER THE INPUT: true; the input reads as it did. -/
def commitFirstSpec : ChangeSpec := { name := "commitFirst", fn := fun _ => fun
  | [d1, d2, d3, d4] => { results := [.lit (.bool true)], args := [d1, d2, d3, d4] }
  | _ => none }
def commitFirstRow : OpenClaim := { program := "ytfaknkkaegjdaaa", sum := "97607a903d40e97ce8d3573f6e3a8e611f517a54b639ea81736af02fd0e3c626", func := "lagleash/lagleashlaw04.CommitFirst", spec := "commitFirst", apart := false }
def CommitFirstSaid : Prop := commitFirstRow.holds Try.pinned (OpenSpec.ofChange commitFirstSpec)

/-- ITS FALSE NEIGHBOUR: 'it returns false'. Refute it at one input. -/
def commitFirstWrong : ChangeSpec := { name := "commitFirst", fn := fun _ => fun
  | [d1, d2, d3, d4] => { results := [.lit (.bool false)], args := [d1, d2, d3, d4] }
  | _ => none }
def CommitFirstWrongFalsely : Prop := commitFirstRow.holds Try.pinned (OpenSpec.ofChange commitFirstWrong)

/-- 'lagleashlaw04.CommitCalls': WHATEVER THE INPUT: true; the input reads as it did. -/
def commitCallsSpec : ChangeSpec := { name := "commitCalls", fn := fun _ => fun
  | [d1, d2] => { results := [.lit (.bool true)], args := [d1, d2] }
  | _ => none }
def commitCallsRow : OpenClaim := { program := "ytfaknkkaegjdaaa", sum := "97607a903d40e97ce8d3573f6e3a8e611f517a54b639ea81736af02fd0e3c626", func := "lagleash/lagleashlaw04.CommitCalls", spec := "commitCalls", apart := false }
def CommitCallsSaid : Prop := commitCallsRow.holds Try.pinned (OpenSpec.ofChange commitCallsSpec)

/-- ITS FALSE NEIGHBOUR: 'it returns false'. Refute it at one input. -/
def commitCallsWrong : ChangeSpec := { name := "commitCalls", fn := fun _ => fun
  | [d1, d2] => { results := [.lit (.bool false)], args := [d1, d2] }
  | _ => none }
def CommitCallsWrongFalsely : Prop := commitCallsRow.holds Try.pinned (OpenSpec.ofChange commitCallsWrong)

/-- 'lagleashlaw04.CommitBack': WHATEVER THE INPUT: true; the input reads as it did. -/
def commitBackSpec : ChangeSpec := { name := "commitBack", fn := fun _ => fun
  | [d1, d2, d3, d4, d5] => { results := [.lit (.bool true)], args := [d1, d2, d3, d4, d5] }
  | _ => none }
def commitBackRow : OpenClaim := { program := "ytfaknkkaegjdaaa", sum := "97607a903d40e97ce8d3573f6e3a8e611f517a54b639ea81736af02fd0e3c626", func := "lagleash/lagleashlaw04.CommitBack", spec := "commitBack", apart := false }
def CommitBackSaid : Prop := commitBackRow.holds Try.pinned (OpenSpec.ofChange commitBackSpec)

/-- ITS FALSE NEIGHBOUR: 'it returns false'. Refute it at one input. -/
def commitBackWrong : ChangeSpec := { name := "commitBack", fn := fun _ => fun
  | [d1, d2, d3, d4, d5] => { results := [.lit (.bool false)], args := [d1, d2, d3, d4, d5] }
  | _ => none }
def CommitBackWrongFalsely : Prop := commitBackRow.holds Try.pinned (OpenSpec.ofChange commitBackWrong)

/-- 'lagleashlaw17.ShipNames': WHATEVER THE INPUT: true; the input reads as it did. -/
def shipNamesSpec : ChangeSpec := { name := "shipNames", fn := fun _ => fun
  | [] => { results := [.lit (.bool true)], args := [] }
  | _ => none }
def shipNamesRow : OpenClaim := { program := "ytfaknkkaegjdaaa", sum := "97607a903d40e97ce8d3573f6e3a8e611f517a54b639ea81736af02fd0e3c626", func := "lagleash/lagleashlaw17.ShipNames", spec := "shipNames", apart := false }
def ShipNamesSaid : Prop := shipNamesRow.holds Try.pinned (OpenSpec.ofChange shipNamesSpec)

/-- ITS FALSE NEIGHBOUR: 'it returns false'. Refute it at one input. -/
def shipNamesWrong : ChangeSpec := { name := "shipNames", fn := fun _ => fun
  | [] => { results := [.lit (.bool false)], args := [] }
  | _ => none }
def ShipNamesWrongFalsely : Prop := shipNamesRow.holds Try.pinned (OpenSpec.ofChange shipNamesWrong)

/-- 'lagleashlaw17.ShipCalls': WHATEVER THE INPUT: true; the input reads as it did. -/
def shipCallsSpec : ChangeSpec := { name := "shipCalls", fn := fun _ => fun
  | [d1, d2, d3, d4] => { results := [.lit (.bool true)], args := [d1, d2, d3, d4] }
  | _ => none }
def shipCallsRow : OpenClaim := { program := "ytfaknkkaegjdaaa", sum := "97607a903d40e97ce8d3573f6e3a8e611f517a54b639ea81736af02fd0e3c626", func := "lagleash/lagleashlaw17.ShipCalls", spec := "shipCalls", apart := false }
def ShipCallsSaid : Prop := shipCallsRow.holds Try.pinned (OpenSpec.ofChange shipCallsSpec)

/-- ITS FALSE NEIGHBOUR: 'it returns false'. Refute it at one input. -/
def shipCallsWrong : ChangeSpec := { name := "shipCalls", fn := fun _ => fun
  | [d1, d2, d3, d4] => { results := [.lit (.bool false)], args := [d1, d2, d3, d4] }
  | _ => none }
def ShipCallsWrongFalsely : Prop := shipCallsRow.holds Try.pinned (OpenSpec.ofChange shipCallsWrong)

/-- 'lagleashlaw18.TakeNames': WHATEVER THE INPUT: true; the input reads as it did. -/
def takeNamesSpec : ChangeSpec := { name := "takeNames", fn := fun _ => fun
  | [] => { results := [.lit (.bool true)], args := [] }
  | _ => none }
def takeNamesRow : OpenClaim := { program := "ytfaknkkaegjdaaa", sum := "97607a903d40e97ce8d3573f6e3a8e611f517a54b639ea81736af02fd0e3c626", func := "lagleash/lagleashlaw18.TakeNames", spec := "takeNames", apart := false }
def TakeNamesSaid : Prop := takeNamesRow.holds Try.pinned (OpenSpec.ofChange takeNamesSpec)

/-- ITS FALSE NEIGHBOUR: 'it returns false'. Refute it at one input. -/
def takeNamesWrong : ChangeSpec := { name := "takeNames", fn := fun _ => fun
  | [] => { results := [.lit (.bool false)], args := [] }
  | _ => none }
def TakeNamesWrongFalsely : Prop := takeNamesRow.holds Try.pinned (OpenSpec.ofChange takeNamesWrong)

/-- 'lagleashlaw18.TakeCalls': WHATEVER THE INPUT: true; the input reads as it did. -/
def takeCallsSpec : ChangeSpec := { name := "takeCalls", fn := fun _ => fun
  | [d1, d2, d3, d4] => { results := [.lit (.bool true)], args := [d1, d2, d3, d4] }
  | _ => none }
def takeCallsRow : OpenClaim := { program := "ytfaknkkaegjdaaa", sum := "97607a903d40e97ce8d3573f6e3a8e611f517a54b639ea81736af02fd0e3c626", func := "lagleash/lagleashlaw18.TakeCalls", spec := "takeCalls", apart := false }
def TakeCallsSaid : Prop := takeCallsRow.holds Try.pinned (OpenSpec.ofChange takeCallsSpec)

/-- ITS FALSE NEIGHBOUR: 'it returns false'. Refute it at one input. -/
def takeCallsWrong : ChangeSpec := { name := "takeCalls", fn := fun _ => fun
  | [d1, d2, d3, d4] => { results := [.lit (.bool false)], args := [d1, d2, d3, d4] }
  | _ => none }
def TakeCallsWrongFalsely : Prop := takeCallsRow.holds Try.pinned (OpenSpec.ofChange takeCallsWrong)

/-- 'lagleashlaw18.TakeTwice': WHATEVER THE INPUT: true; the input reads as it did. -/
def takeTwiceSpec : ChangeSpec := { name := "takeTwice", fn := fun _ => fun
  | [d1, d2, d3] => { results := [.lit (.bool true)], args := [d1, d2, d3] }
  | _ => none }
def takeTwiceRow : OpenClaim := { program := "ytfaknkkaegjdaaa", sum := "97607a903d40e97ce8d3573f6e3a8e611f517a54b639ea81736af02fd0e3c626", func := "lagleash/lagleashlaw18.TakeTwice", spec := "takeTwice", apart := false }
def TakeTwiceSaid : Prop := takeTwiceRow.holds Try.pinned (OpenSpec.ofChange takeTwiceSpec)

/-- ITS FALSE NEIGHBOUR: 'it returns false'. Refute it at one input. -/
def takeTwiceWrong : ChangeSpec := { name := "takeTwice", fn := fun _ => fun
  | [d1, d2, d3] => { results := [.lit (.bool false)], args := [d1, d2, d3] }
  | _ => none }
def TakeTwiceWrongFalsely : Prop := takeTwiceRow.holds Try.pinned (OpenSpec.ofChange takeTwiceWrong)

/-- 'lagleashlaw17.ShipAll': WHATEVER THE INPUT: true; the input reads as it did. -/
def shipAllSpec : ChangeSpec := { name := "shipAll", fn := fun _ => fun
  | [d1, d2] => { results := [.lit (.bool true)], args := [d1, d2] }
  | _ => none }
def shipAllRow : OpenClaim := { program := "ytfaknkkaegjdaaa", sum := "97607a903d40e97ce8d3573f6e3a8e611f517a54b639ea81736af02fd0e3c626", func := "lagleash/lagleashlaw17.ShipAll", spec := "shipAll", apart := false }
def ShipAllSaid : Prop := shipAllRow.holds Try.pinned (OpenSpec.ofChange shipAllSpec)

/-- ITS FALSE NEIGHBOUR: 'it returns false'. Refute it at one input. -/
def shipAllWrong : ChangeSpec := { name := "shipAll", fn := fun _ => fun
  | [d1, d2] => { results := [.lit (.bool false)], args := [d1, d2] }
  | _ => none }
def ShipAllWrongFalsely : Prop := shipAllRow.holds Try.pinned (OpenSpec.ofChange shipAllWrong)

/-- 'lagleashlaw18.TakeAll': WHATEVER THE INPUT: true; the input reads as it did. -/
def takeAllSpec : ChangeSpec := { name := "takeAll", fn := fun _ => fun
  | [d1, d2, d3] => { results := [.lit (.bool true)], args := [d1, d2, d3] }
  | _ => none }
def takeAllRow : OpenClaim := { program := "ytfaknkkaegjdaaa", sum := "97607a903d40e97ce8d3573f6e3a8e611f517a54b639ea81736af02fd0e3c626", func := "lagleash/lagleashlaw18.TakeAll", spec := "takeAll", apart := false }
def TakeAllSaid : Prop := takeAllRow.holds Try.pinned (OpenSpec.ofChange takeAllSpec)

/-- ITS FALSE NEIGHBOUR: 'it returns false'. Refute it at one input. -/
def takeAllWrong : ChangeSpec := { name := "takeAll", fn := fun _ => fun
  | [d1, d2, d3] => { results := [.lit (.bool false)], args := [d1, d2, d3] }
  | _ => none }
def TakeAllWrongFalsely : Prop := takeAllRow.holds Try.pinned (OpenSpec.ofChange takeAllWrong)

/-- 'lagleashlaw17.ShipHello': WHATEVER THE INPUT: true; the input reads as it did. -/
def shipHelloSpec : ChangeSpec := { name := "shipHello", fn := fun _ => fun
  | [d1, d2, d3] => { results := [.lit (.bool true)], args := [d1, d2, d3] }
  | _ => none }
def shipHelloRow : OpenClaim := { program := "ytfaknkkaegjdaaa", sum := "97607a903d40e97ce8d3573f6e3a8e611f517a54b639ea81736af02fd0e3c626", func := "lagleash/lagleashlaw17.ShipHello", spec := "shipHello", unfollowed := true, recurses := true, apart := false }
def ShipHelloSaid : Prop := shipHelloRow.holds Try.pinned (OpenSpec.ofChange shipHelloSpec)

/-- ITS FALSE NEIGHBOUR: 'it returns false'. Refute it at one input. -/
def shipHelloWrong : ChangeSpec := { name := "shipHello", fn := fun _ => fun
  | [d1, d2, d3] => { results := [.lit (.bool false)], args := [d1, d2, d3] }
  | _ => none }
def ShipHelloWrongFalsely : Prop := shipHelloRow.holds Try.pinned (OpenSpec.ofChange shipHelloWrong)

/- THE SECOND FORM. 'bulk': how many values and letters a reading holds, each counted each time it is reached (what is shared counts as often as it is met; a slice's spare places count too). A statement '..UptoSaid' is the law's where the arguments, and the package variables that the reading takes, are together of bulk at most 1048576: NARROWER than '..Said'. Prove '..Said' where nothing that the law and all that it calls make is longer than what came in: it says more and counts as full. Else prove '..UptoSaid'. A law counts once. -/
mutual
def uptoBulk {H : Type} : DataW H → Nat
  | .lit (.string bytes) => bytes.length + 1
  | .lit _ => 1
  | .nil => 1
  | .ptr d => uptoBulk d + 1
  | .slice elems spare => uptoBulkAll elems + uptoBulkAll spare + 1
  | .agg parts => uptoBulkAll parts + 1
  | .iface _ d => uptoBulk d + 1
  | .map entries => uptoBulkEntries entries + 1
  | .held _ => 1
def uptoBulkAll {H : Type} : List (DataW H) → Nat
  | [] => 0
  | d :: r => uptoBulk d + uptoBulkAll r
def uptoBulkEntries {H : Type} : List (Lit × DataW H) → Nat
  | [] => 0
  | x :: r => uptoBulkEntry x + uptoBulkEntries r
def uptoBulkEntry {H : Type} : Lit × DataW H → Nat
  | (.string bytes, d) => bytes.length + uptoBulk d + 1
  | (_, d) => uptoBulk d + 1
 end
def uptoSmall : (H : Type) → List (DataW H) → Bool := fun _ ds => decide (uptoBulkAll ds ≤ 1048576)
def OpenSpec.upto (s : _root_.Go.ChangeSpec) : _root_.Go.OpenSpec := { _root_.Go.OpenSpec.ofChange s with cond := some uptoSmall }

/-- 'lagleashlaw03.BatchNames', WHERE WHAT IT READS IS OF BULK AT MOST 1048576: true; the input reads as it did. -/
def batchNamesUptoRow : OpenClaim := { program := "ytfaknkkaegjdaaa", sum := "97607a903d40e97ce8d3573f6e3a8e611f517a54b639ea81736af02fd0e3c626", func := "lagleash/lagleashlaw03.BatchNames", spec := "batchNames", apart := false, narrowed := true }
def BatchNamesUptoSaid : Prop := batchNamesUptoRow.holds Try.pinned (OpenSpec.upto batchNamesSpec)

/-- 'lagleashlaw03.BatchCalls', WHERE WHAT IT READS IS OF BULK AT MOST 1048576: true; the input reads as it did. -/
def batchCallsUptoRow : OpenClaim := { program := "ytfaknkkaegjdaaa", sum := "97607a903d40e97ce8d3573f6e3a8e611f517a54b639ea81736af02fd0e3c626", func := "lagleash/lagleashlaw03.BatchCalls", spec := "batchCalls", apart := false, narrowed := true }
def BatchCallsUptoSaid : Prop := batchCallsUptoRow.holds Try.pinned (OpenSpec.upto batchCallsSpec)

/-- 'lagleashlaw03.BatchReads', WHERE WHAT IT READS IS OF BULK AT MOST 1048576: true; the input reads as it did. -/
def batchReadsUptoRow : OpenClaim := { program := "ytfaknkkaegjdaaa", sum := "97607a903d40e97ce8d3573f6e3a8e611f517a54b639ea81736af02fd0e3c626", func := "lagleash/lagleashlaw03.BatchReads", spec := "batchReads", apart := false, narrowed := true }
def BatchReadsUptoSaid : Prop := batchReadsUptoRow.holds Try.pinned (OpenSpec.upto batchReadsSpec)

/-- 'lagleashlaw03.BatchShared', WHERE WHAT IT READS IS OF BULK AT MOST 1048576: true; the input reads as it did. -/
def batchSharedUptoRow : OpenClaim := { program := "ytfaknkkaegjdaaa", sum := "97607a903d40e97ce8d3573f6e3a8e611f517a54b639ea81736af02fd0e3c626", func := "lagleash/lagleashlaw03.BatchShared", spec := "batchShared", apart := false, narrowed := true }
def BatchSharedUptoSaid : Prop := batchSharedUptoRow.holds Try.pinned (OpenSpec.upto batchSharedSpec)

/-- 'lagleashlaw03.BatchRow', WHERE WHAT IT READS IS OF BULK AT MOST 1048576: true; the input reads as it did. -/
def batchRowUptoRow : OpenClaim := { program := "ytfaknkkaegjdaaa", sum := "97607a903d40e97ce8d3573f6e3a8e611f517a54b639ea81736af02fd0e3c626", func := "lagleash/lagleashlaw03.BatchRow", spec := "batchRow", apart := false, narrowed := true }
def BatchRowUptoSaid : Prop := batchRowUptoRow.holds Try.pinned (OpenSpec.upto batchRowSpec)

/-- 'lagleashlaw03.BatchBack', WHERE WHAT IT READS IS OF BULK AT MOST 1048576: true; the input reads as it did. -/
def batchBackUptoRow : OpenClaim := { program := "ytfaknkkaegjdaaa", sum := "97607a903d40e97ce8d3573f6e3a8e611f517a54b639ea81736af02fd0e3c626", func := "lagleash/lagleashlaw03.BatchBack", spec := "batchBack", apart := false, narrowed := true }
def BatchBackUptoSaid : Prop := batchBackUptoRow.holds Try.pinned (OpenSpec.upto batchBackSpec)

/-- 'lagleashlaw04.CommitReads', WHERE WHAT IT READS IS OF BULK AT MOST 1048576: true; the input reads as it did. -/
def commitReadsUptoRow : OpenClaim := { program := "ytfaknkkaegjdaaa", sum := "97607a903d40e97ce8d3573f6e3a8e611f517a54b639ea81736af02fd0e3c626", func := "lagleash/lagleashlaw04.CommitReads", spec := "commitReads", apart := false, narrowed := true }
def CommitReadsUptoSaid : Prop := commitReadsUptoRow.holds Try.pinned (OpenSpec.upto commitReadsSpec)

/-- 'lagleashlaw04.CommitNames', WHERE WHAT IT READS IS OF BULK AT MOST 1048576: true; the input reads as it did. -/
def commitNamesUptoRow : OpenClaim := { program := "ytfaknkkaegjdaaa", sum := "97607a903d40e97ce8d3573f6e3a8e611f517a54b639ea81736af02fd0e3c626", func := "lagleash/lagleashlaw04.CommitNames", spec := "commitNames", apart := false, narrowed := true }
def CommitNamesUptoSaid : Prop := commitNamesUptoRow.holds Try.pinned (OpenSpec.upto commitNamesSpec)

/-- 'lagleashlaw04.CommitFollows', WHERE WHAT IT READS IS OF BULK AT MOST 1048576: true; the input reads as it did. -/
def commitFollowsUptoRow : OpenClaim := { program := "ytfaknkkaegjdaaa", sum := "97607a903d40e97ce8d3573f6e3a8e611f517a54b639ea81736af02fd0e3c626", func := "lagleash/lagleashlaw04.CommitFollows", spec := "commitFollows", apart := false, narrowed := true }
def CommitFollowsUptoSaid : Prop := commitFollowsUptoRow.holds Try.pinned (OpenSpec.upto commitFollowsSpec)

/-- 'lagleashlaw04.CommitFirst', WHERE WHAT IT READS IS OF BULK AT MOST 1048576: true; the input reads as it did. -/
def commitFirstUptoRow : OpenClaim := { program := "ytfaknkkaegjdaaa", sum := "97607a903d40e97ce8d3573f6e3a8e611f517a54b639ea81736af02fd0e3c626", func := "lagleash/lagleashlaw04.CommitFirst", spec := "commitFirst", apart := false, narrowed := true }
def CommitFirstUptoSaid : Prop := commitFirstUptoRow.holds Try.pinned (OpenSpec.upto commitFirstSpec)

/-- 'lagleashlaw04.CommitCalls', WHERE WHAT IT READS IS OF BULK AT MOST 1048576: true; the input reads as it did. -/
def commitCallsUptoRow : OpenClaim := { program := "ytfaknkkaegjdaaa", sum := "97607a903d40e97ce8d3573f6e3a8e611f517a54b639ea81736af02fd0e3c626", func := "lagleash/lagleashlaw04.CommitCalls", spec := "commitCalls", apart := false, narrowed := true }
def CommitCallsUptoSaid : Prop := commitCallsUptoRow.holds Try.pinned (OpenSpec.upto commitCallsSpec)

/-- 'lagleashlaw04.CommitBack', WHERE WHAT IT READS IS OF BULK AT MOST 1048576: true; the input reads as it did. -/
def commitBackUptoRow : OpenClaim := { program := "ytfaknkkaegjdaaa", sum := "97607a903d40e97ce8d3573f6e3a8e611f517a54b639ea81736af02fd0e3c626", func := "lagleash/lagleashlaw04.CommitBack", spec := "commitBack", apart := false, narrowed := true }
def CommitBackUptoSaid : Prop := commitBackUptoRow.holds Try.pinned (OpenSpec.upto commitBackSpec)

/-- 'lagleashlaw17.ShipNames', WHERE WHAT IT READS IS OF BULK AT MOST 1048576: true; the input reads as it did. -/
def shipNamesUptoRow : OpenClaim := { program := "ytfaknkkaegjdaaa", sum := "97607a903d40e97ce8d3573f6e3a8e611f517a54b639ea81736af02fd0e3c626", func := "lagleash/lagleashlaw17.ShipNames", spec := "shipNames", apart := false, narrowed := true }
def ShipNamesUptoSaid : Prop := shipNamesUptoRow.holds Try.pinned (OpenSpec.upto shipNamesSpec)

/-- 'lagleashlaw17.ShipCalls', WHERE WHAT IT READS IS OF BULK AT MOST 1048576: true; the input reads as it did. -/
def shipCallsUptoRow : OpenClaim := { program := "ytfaknkkaegjdaaa", sum := "97607a903d40e97ce8d3573f6e3a8e611f517a54b639ea81736af02fd0e3c626", func := "lagleash/lagleashlaw17.ShipCalls", spec := "shipCalls", apart := false, narrowed := true }
def ShipCallsUptoSaid : Prop := shipCallsUptoRow.holds Try.pinned (OpenSpec.upto shipCallsSpec)

/-- 'lagleashlaw18.TakeNames', WHERE WHAT IT READS IS OF BULK AT MOST 1048576: true; the input reads as it did. -/
def takeNamesUptoRow : OpenClaim := { program := "ytfaknkkaegjdaaa", sum := "97607a903d40e97ce8d3573f6e3a8e611f517a54b639ea81736af02fd0e3c626", func := "lagleash/lagleashlaw18.TakeNames", spec := "takeNames", apart := false, narrowed := true }
def TakeNamesUptoSaid : Prop := takeNamesUptoRow.holds Try.pinned (OpenSpec.upto takeNamesSpec)

/-- 'lagleashlaw18.TakeCalls', WHERE WHAT IT READS IS OF BULK AT MOST 1048576: true; the input reads as it did. -/
def takeCallsUptoRow : OpenClaim := { program := "ytfaknkkaegjdaaa", sum := "97607a903d40e97ce8d3573f6e3a8e611f517a54b639ea81736af02fd0e3c626", func := "lagleash/lagleashlaw18.TakeCalls", spec := "takeCalls", apart := false, narrowed := true }
def TakeCallsUptoSaid : Prop := takeCallsUptoRow.holds Try.pinned (OpenSpec.upto takeCallsSpec)

/-- 'lagleashlaw18.TakeTwice', WHERE WHAT IT READS IS OF BULK AT MOST 1048576: true; the input reads as it did. -/
def takeTwiceUptoRow : OpenClaim := { program := "ytfaknkkaegjdaaa", sum := "97607a903d40e97ce8d3573f6e3a8e611f517a54b639ea81736af02fd0e3c626", func := "lagleash/lagleashlaw18.TakeTwice", spec := "takeTwice", apart := false, narrowed := true }
def TakeTwiceUptoSaid : Prop := takeTwiceUptoRow.holds Try.pinned (OpenSpec.upto takeTwiceSpec)

/-- 'lagleashlaw17.ShipAll', WHERE WHAT IT READS IS OF BULK AT MOST 1048576: true; the input reads as it did. -/
def shipAllUptoRow : OpenClaim := { program := "ytfaknkkaegjdaaa", sum := "97607a903d40e97ce8d3573f6e3a8e611f517a54b639ea81736af02fd0e3c626", func := "lagleash/lagleashlaw17.ShipAll", spec := "shipAll", apart := false, narrowed := true }
def ShipAllUptoSaid : Prop := shipAllUptoRow.holds Try.pinned (OpenSpec.upto shipAllSpec)

/-- 'lagleashlaw18.TakeAll', WHERE WHAT IT READS IS OF BULK AT MOST 1048576: true; the input reads as it did. -/
def takeAllUptoRow : OpenClaim := { program := "ytfaknkkaegjdaaa", sum := "97607a903d40e97ce8d3573f6e3a8e611f517a54b639ea81736af02fd0e3c626", func := "lagleash/lagleashlaw18.TakeAll", spec := "takeAll", apart := false, narrowed := true }
def TakeAllUptoSaid : Prop := takeAllUptoRow.holds Try.pinned (OpenSpec.upto takeAllSpec)

/-- 'lagleashlaw17.ShipHello', WHERE WHAT IT READS IS OF BULK AT MOST 1048576: true; the input reads as it did. -/
def shipHelloUptoRow : OpenClaim := { program := "ytfaknkkaegjdaaa", sum := "97607a903d40e97ce8d3573f6e3a8e611f517a54b639ea81736af02fd0e3c626", func := "lagleash/lagleashlaw17.ShipHello", spec := "shipHello", unfollowed := true, recurses := true, apart := false, narrowed := true }
def ShipHelloUptoSaid : Prop := shipHelloUptoRow.holds Try.pinned (OpenSpec.upto shipHelloSpec)

end Rows
end Go.Proofs.Ytfaknkkaegjdaaa
