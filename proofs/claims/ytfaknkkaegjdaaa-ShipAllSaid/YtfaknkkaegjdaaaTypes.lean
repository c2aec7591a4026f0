/- The struct types of this seat as plain data. Conditions: none. -/
import Derived.Test.YtfaknkkaegjdaaaKitI
set_option linter.unusedVariables false
namespace Go.Proofs.Ytfaknkkaegjdaaa
abbrev TOp : Ty := .pair .bool (.pair .str .str)
abbrev DOp := Bool × (List UInt8) × (List UInt8)
instance decOp : DecidableEq DOp := @instDecidableEqProd _ _ inferInstance (@instDecidableEqProd _ _ inferInstance (inferInstance))
theorem open_Op {m : Mem} {cs : List Value} {x : DOp} (h : Rd TOp m cs x) : cs = [.bool x.1, str x.2.1, str x.2.2] ∧ x.2.1.length ≤ maxLen ∧ x.2.2.length ≤ maxLen := by
  obtain ⟨p1, q1, rfl, u1, w1⟩ := Rd.pair h
  obtain rfl := (show _ = _ from u1)
  obtain ⟨p3, q3, rfl, u3, w3⟩ := Rd.pair w1
  obtain ⟨rfl, z4⟩ := u3
  obtain ⟨rfl, z5⟩ := w3
  exact ⟨rfl, z4, z5⟩
theorem mk_Op {m : Mem} (x : DOp) (h1 : x.2.1.length ≤ maxLen) (h2 : x.2.2.length ≤ maxLen) : Rd TOp m [.bool x.1, str x.2.1, str x.2.2] x := (Rd.mkPair (c1 := [_]) (show Rd .bool m [_] _ from rfl) (Rd.mkPair (c1 := [_]) (show Rd .str m [_] _ from ⟨rfl, h1⟩) (show Rd .str m [_] _ from ⟨rfl, h2⟩)))
abbrev TCommit : Ty := .pair (.int .i64) (.pair (.int .i64) ((.sl TOp)))
abbrev DCommit := Int × Int × (List DOp)
instance decCommit : DecidableEq DCommit := @instDecidableEqProd _ _ inferInstance (@instDecidableEqProd _ _ inferInstance (inferInstance))
theorem open_Commit {m : Mem} {cs : List Value} {x : DCommit} (h : Rd TCommit m cs x) : ∃ (A0 : Option Addr), ∃ (c0 : Nat), cs = [.int .i64 x.1, .int .i64 x.2.1, .slice A0 x.2.2.length c0] ∧ inK .i64 x.1 ∧ inK .i64 x.2.1 ∧ Rd (.sl TOp) m [.slice A0 x.2.2.length c0] x.2.2 := by
  obtain ⟨p1, q1, rfl, u1, w1⟩ := Rd.pair h
  obtain ⟨rfl, z2⟩ := u1
  obtain ⟨p3, q3, rfl, u3, w3⟩ := Rd.pair w1
  obtain ⟨rfl, z4⟩ := u3
  have z5 := w3
  obtain ⟨A5, c5, rfl, _⟩ := w3
  exact ⟨A5, c5, rfl, z2, z4, z5⟩
theorem mk_Commit {m : Mem} (x : DCommit) (h0 : inK .i64 x.1) (h1 : inK .i64 x.2.1) {v2 : Value} (h2 : Rd (.sl TOp) m [v2] x.2.2) : Rd TCommit m [.int .i64 x.1, .int .i64 x.2.1, v2] x := (Rd.mkPair (c1 := [_]) (show Rd (.int .i64) m [_] _ from ⟨rfl, h0⟩) (Rd.mkPair (c1 := [_]) (show Rd (.int .i64) m [_] _ from ⟨rfl, h1⟩) h2))
abbrev TFault : Ty := .pair (.int .i64) ((.int .i64))
abbrev DFault := Int × Int
instance decFault : DecidableEq DFault := @instDecidableEqProd _ _ inferInstance (inferInstance)
theorem open_Fault {m : Mem} {cs : List Value} {x : DFault} (h : Rd TFault m cs x) : cs = [.int .i64 x.1, .int .i64 x.2] ∧ inK .i64 x.1 ∧ inK .i64 x.2 := by
  obtain ⟨p1, q1, rfl, u1, w1⟩ := Rd.pair h
  obtain ⟨rfl, z2⟩ := u1
  obtain ⟨rfl, z3⟩ := w1
  exact ⟨rfl, z2, z3⟩
theorem mk_Fault {m : Mem} (x : DFault) (h0 : inK .i64 x.1) (h1 : inK .i64 x.2) : Rd TFault m [.int .i64 x.1, .int .i64 x.2] x := (Rd.mkPair (c1 := [_]) (show Rd (.int .i64) m [_] _ from ⟨rfl, h0⟩) (show Rd (.int .i64) m [_] _ from ⟨rfl, h1⟩))
abbrev TStart : Ty := .pair (.int .i64) ((.int .i64))
abbrev DStart := Int × Int
instance decStart : DecidableEq DStart := @instDecidableEqProd _ _ inferInstance (inferInstance)
theorem open_Start {m : Mem} {cs : List Value} {x : DStart} (h : Rd TStart m cs x) : cs = [.int .i64 x.1, .int .i64 x.2] ∧ inK .i64 x.1 ∧ inK .i64 x.2 := by
  obtain ⟨p1, q1, rfl, u1, w1⟩ := Rd.pair h
  obtain ⟨rfl, z2⟩ := u1
  obtain ⟨rfl, z3⟩ := w1
  exact ⟨rfl, z2, z3⟩
theorem mk_Start {m : Mem} (x : DStart) (h0 : inK .i64 x.1) (h1 : inK .i64 x.2) : Rd TStart m [.int .i64 x.1, .int .i64 x.2] x := (Rd.mkPair (c1 := [_]) (show Rd (.int .i64) m [_] _ from ⟨rfl, h0⟩) (show Rd (.int .i64) m [_] _ from ⟨rfl, h1⟩))
abbrev TMessage : Ty := .pair (.int .i64) (.pair (.int .i64) (.pair (.int .u8) (.pair (.int .i64) (.pair (.sl TStart) (.pair (.int .i64) (.pair (.int .i64) ((.sl TCommit))))))))
abbrev DMessage := Int × Int × Int × Int × (List DStart) × Int × Int × (List DCommit)
instance decMessage : DecidableEq DMessage := @instDecidableEqProd _ _ inferInstance (@instDecidableEqProd _ _ inferInstance (@instDecidableEqProd _ _ inferInstance (@instDecidableEqProd _ _ inferInstance (@instDecidableEqProd _ _ inferInstance (@instDecidableEqProd _ _ inferInstance (@instDecidableEqProd _ _ inferInstance (inferInstance)))))))
theorem open_Message {m : Mem} {cs : List Value} {x : DMessage} (h : Rd TMessage m cs x) : ∃ (A0 : Option Addr), ∃ (c0 : Nat), ∃ (A1 : Option Addr), ∃ (c1 : Nat), cs = [.int .i64 x.1, .int .i64 x.2.1, .int .u8 x.2.2.1, .int .i64 x.2.2.2.1, .slice A0 x.2.2.2.2.1.length c0, .int .i64 x.2.2.2.2.2.1, .int .i64 x.2.2.2.2.2.2.1, .slice A1 x.2.2.2.2.2.2.2.length c1] ∧ inK .i64 x.1 ∧ inK .i64 x.2.1 ∧ inK .u8 x.2.2.1 ∧ inK .i64 x.2.2.2.1 ∧ Rd (.sl TStart) m [.slice A0 x.2.2.2.2.1.length c0] x.2.2.2.2.1 ∧ inK .i64 x.2.2.2.2.2.1 ∧ inK .i64 x.2.2.2.2.2.2.1 ∧ Rd (.sl TCommit) m [.slice A1 x.2.2.2.2.2.2.2.length c1] x.2.2.2.2.2.2.2 := by
  obtain ⟨p1, q1, rfl, u1, w1⟩ := Rd.pair h
  obtain ⟨rfl, z2⟩ := u1
  obtain ⟨p3, q3, rfl, u3, w3⟩ := Rd.pair w1
  obtain ⟨rfl, z4⟩ := u3
  obtain ⟨p5, q5, rfl, u5, w5⟩ := Rd.pair w3
  obtain ⟨rfl, z6⟩ := u5
  obtain ⟨p7, q7, rfl, u7, w7⟩ := Rd.pair w5
  obtain ⟨rfl, z8⟩ := u7
  obtain ⟨p9, q9, rfl, u9, w9⟩ := Rd.pair w7
  have z10 := u9
  obtain ⟨A10, c10, rfl, _⟩ := u9
  obtain ⟨p11, q11, rfl, u11, w11⟩ := Rd.pair w9
  obtain ⟨rfl, z12⟩ := u11
  obtain ⟨p13, q13, rfl, u13, w13⟩ := Rd.pair w11
  obtain ⟨rfl, z14⟩ := u13
  have z15 := w13
  obtain ⟨A15, c15, rfl, _⟩ := w13
  exact ⟨A10, c10, A15, c15, rfl, z2, z4, z6, z8, z10, z12, z14, z15⟩
theorem mk_Message {m : Mem} (x : DMessage) (h0 : inK .i64 x.1) (h1 : inK .i64 x.2.1) (h2 : inK .u8 x.2.2.1) (h3 : inK .i64 x.2.2.2.1) {v4 : Value} (h4 : Rd (.sl TStart) m [v4] x.2.2.2.2.1) (h5 : inK .i64 x.2.2.2.2.2.1) (h6 : inK .i64 x.2.2.2.2.2.2.1) {v7 : Value} (h7 : Rd (.sl TCommit) m [v7] x.2.2.2.2.2.2.2) : Rd TMessage m [.int .i64 x.1, .int .i64 x.2.1, .int .u8 x.2.2.1, .int .i64 x.2.2.2.1, v4, .int .i64 x.2.2.2.2.2.1, .int .i64 x.2.2.2.2.2.2.1, v7] x := (Rd.mkPair (c1 := [_]) (show Rd (.int .i64) m [_] _ from ⟨rfl, h0⟩) (Rd.mkPair (c1 := [_]) (show Rd (.int .i64) m [_] _ from ⟨rfl, h1⟩) (Rd.mkPair (c1 := [_]) (show Rd (.int .u8) m [_] _ from ⟨rfl, h2⟩) (Rd.mkPair (c1 := [_]) (show Rd (.int .i64) m [_] _ from ⟨rfl, h3⟩) (Rd.mkPair (c1 := [_]) h4 (Rd.mkPair (c1 := [_]) (show Rd (.int .i64) m [_] _ from ⟨rfl, h5⟩) (Rd.mkPair (c1 := [_]) (show Rd (.int .i64) m [_] _ from ⟨rfl, h6⟩) h7)))))))
end Go.Proofs.Ytfaknkkaegjdaaa
