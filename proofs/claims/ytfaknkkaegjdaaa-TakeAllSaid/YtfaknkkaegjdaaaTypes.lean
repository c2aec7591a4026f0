/- The struct types of this seat as plain data. Conditions: none. -/
import Derived.Test.YtfaknkkaegjdaaaKitP
set_option linter.unusedVariables false
namespace Go.Proofs.Ytfaknkkaegjdaaa
abbrev TOp : Ty := .pair .bool (.pair .str .str)
abbrev DOp := Bool × (List UInt8) × (List UInt8)
instance decOp : DecidableEq DOp := (@instDecidableEqProd _ _ inferInstance (@instDecidableEqProd _ _ inferInstance inferInstance))
theorem open_Op {m : Mem} {cs : List Value} {x0 : Bool} {x1 : List UInt8} {x2 : List UInt8} (h : Rd TOp m cs (x0, x1, x2)) : cs = [(.bool x0 : Value), str x1, str x2] ∧ x1.length ≤ maxLen ∧ x2.length ≤ maxLen := by
  obtain ⟨p1, q1, rfl, u1, w1⟩ := Rd.pair h
  obtain rfl := (show _ = _ from u1)
  obtain ⟨p3, q3, rfl, u3, w3⟩ := Rd.pair w1
  obtain ⟨rfl, z4⟩ := (show _ = _ ∧ _ from u3)
  obtain ⟨rfl, z5⟩ := (show _ = _ ∧ _ from w3)
  exact ⟨rfl, z4, z5⟩
theorem mk_Op {m : Mem} (x0 : Bool) (x1 : List UInt8) (x2 : List UInt8) (h1 : x1.length ≤ maxLen) (h2 : x2.length ≤ maxLen) : Rd TOp m [.bool x0, str x1, str x2] (x0, x1, x2) := (Rd.mkPair (c1 := [_]) (show Rd .bool m [_] _ from rfl) (Rd.mkPair (c1 := [_]) (show Rd .str m [_] _ from ⟨rfl, h1⟩) (show Rd .str m [_] _ from ⟨rfl, h2⟩)))
abbrev TCommit : Ty := .pair (.int .i64) (.pair (.int .i64) (.sl TOp))
abbrev DCommit := Int × Int × (List DOp)
instance decCommit : DecidableEq DCommit := (@instDecidableEqProd _ _ inferInstance (@instDecidableEqProd _ _ inferInstance inferInstance))
theorem open_Commit {m : Mem} {cs : List Value} {x0 : Int} {x1 : Int} {x2 : List DOp} (h : Rd TCommit m cs (x0, x1, x2)) : ∃ (A2 : Option Addr), ∃ (c2 : Nat), cs = [(.int .i64 x0 : Value), .int .i64 x1, .slice A2 x2.length c2] ∧ inK .i64 x0 ∧ inK .i64 x1 ∧ Rd (.sl TOp) m [.slice A2 x2.length c2] x2 := by
  obtain ⟨p1, q1, rfl, u1, w1⟩ := Rd.pair h
  obtain ⟨rfl, z2⟩ := (show _ = _ ∧ _ from u1)
  obtain ⟨p3, q3, rfl, u3, w3⟩ := Rd.pair w1
  obtain ⟨rfl, z4⟩ := (show _ = _ ∧ _ from u3)
  have z5 := w3
  obtain ⟨A5, c5, rfl, _⟩ := Rd.slice1 w3
  exact ⟨A5, c5, rfl, z2, z4, z5⟩
theorem mk_Commit {m : Mem} (x0 : Int) (x1 : Int) (x2 : List DOp) (h0 : inK .i64 x0) (h1 : inK .i64 x1) {v2 : Value} (h2 : Rd (.sl TOp) m [v2] x2) : Rd TCommit m [.int .i64 x0, .int .i64 x1, v2] (x0, x1, x2) := (Rd.mkPair (c1 := [_]) (show Rd (.int .i64) m [_] _ from ⟨rfl, h0⟩) (Rd.mkPair (c1 := [_]) (show Rd (.int .i64) m [_] _ from ⟨rfl, h1⟩) h2))
theorem openO_Commit {m : Mem} {cs : List Value} {x0 : Int} {x1 : Int} {x2 : List DOp} (h : Ow TCommit m cs (x0, x1, x2)) : ∃ (A2 : Option Addr), ∃ (c2 : Nat), ∃ (n2 : Mem), cs = [(.int .i64 x0 : Value), .int .i64 x1, .slice A2 x2.length c2] ∧ Seps m [n2] ∧ inK .i64 x0 ∧ inK .i64 x1 ∧ Ow (.sl TOp) n2 [.slice A2 x2.length c2] x2 := by
  obtain ⟨p1, q1, ma1, mb1, rfl, dj1, la1, lb1, u1, w1⟩ := Ow.pair h
  obtain ⟨rfl, z2⟩ := (show _ = _ ∧ _ from u1)
  obtain ⟨p3, q3, ma3, mb3, rfl, dj3, la3, lb3, u3, w3⟩ := Ow.pair w1
  obtain ⟨rfl, z4⟩ := (show _ = _ ∧ _ from u3)
  have z5 := w3
  obtain ⟨A5, c5, rfl, _⟩ := Ow.slice1 w3
  exact ⟨A5, c5, _, rfl, (Seps.app dj1 la1 lb1 (Seps.nil _) (Seps.app dj3 la3 lb3 (Seps.nil _) (Seps.one (mle_refl _)))), z2, z4, z5⟩
theorem mkO_Commit {m : Mem} {n2 : Mem} (x0 : Int) (x1 : Int) (x2 : List DOp) (hS : Seps m [n2]) (h0 : inK .i64 x0) (h1 : inK .i64 x1) {v2 : Value} (h2 : Ow (.sl TOp) n2 [v2] x2) : Ow TCommit m [.int .i64 x0, .int .i64 x1, v2] (x0, x1, x2) := by
  obtain ⟨e1, la1, lb1, Sa1, Sb1⟩ := Seps.cut (l := []) (r := [n2]) hS
  obtain ⟨e2, la2, lb2, Sa2, Sb2⟩ := Seps.cut (l := []) (r := [n2]) Sb1
  exact (Ow.mkPair (c1 := [_]) e1 la1 lb1 (show Ow (.int .i64) _ [_] _ from ⟨rfl, h0⟩) (Ow.mkPair (c1 := [_]) e2 la2 lb2 (show Ow (.int .i64) _ [_] _ from ⟨rfl, h1⟩) (h2.up (Sb2.1 _ (.head _)))))
abbrev TFault : Ty := .pair (.int .i64) (.int .i64)
abbrev DFault := Int × Int
instance decFault : DecidableEq DFault := (@instDecidableEqProd _ _ inferInstance inferInstance)
theorem open_Fault {m : Mem} {cs : List Value} {x0 : Int} {x1 : Int} (h : Rd TFault m cs (x0, x1)) : cs = [(.int .i64 x0 : Value), .int .i64 x1] ∧ inK .i64 x0 ∧ inK .i64 x1 := by
  obtain ⟨p1, q1, rfl, u1, w1⟩ := Rd.pair h
  obtain ⟨rfl, z2⟩ := (show _ = _ ∧ _ from u1)
  obtain ⟨rfl, z3⟩ := (show _ = _ ∧ _ from w1)
  exact ⟨rfl, z2, z3⟩
theorem mk_Fault {m : Mem} (x0 : Int) (x1 : Int) (h0 : inK .i64 x0) (h1 : inK .i64 x1) : Rd TFault m [.int .i64 x0, .int .i64 x1] (x0, x1) := (Rd.mkPair (c1 := [_]) (show Rd (.int .i64) m [_] _ from ⟨rfl, h0⟩) (show Rd (.int .i64) m [_] _ from ⟨rfl, h1⟩))
abbrev TStart : Ty := .pair (.int .i64) (.int .i64)
abbrev DStart := Int × Int
instance decStart : DecidableEq DStart := (@instDecidableEqProd _ _ inferInstance inferInstance)
theorem open_Start {m : Mem} {cs : List Value} {x0 : Int} {x1 : Int} (h : Rd TStart m cs (x0, x1)) : cs = [(.int .i64 x0 : Value), .int .i64 x1] ∧ inK .i64 x0 ∧ inK .i64 x1 := by
  obtain ⟨p1, q1, rfl, u1, w1⟩ := Rd.pair h
  obtain ⟨rfl, z2⟩ := (show _ = _ ∧ _ from u1)
  obtain ⟨rfl, z3⟩ := (show _ = _ ∧ _ from w1)
  exact ⟨rfl, z2, z3⟩
theorem mk_Start {m : Mem} (x0 : Int) (x1 : Int) (h0 : inK .i64 x0) (h1 : inK .i64 x1) : Rd TStart m [.int .i64 x0, .int .i64 x1] (x0, x1) := (Rd.mkPair (c1 := [_]) (show Rd (.int .i64) m [_] _ from ⟨rfl, h0⟩) (show Rd (.int .i64) m [_] _ from ⟨rfl, h1⟩))
abbrev TMessage : Ty := .pair (.int .i64) (.pair (.int .i64) (.pair (.int .u8) (.pair (.int .i64) (.pair (.sl TStart) (.pair (.int .i64) (.pair (.int .i64) (.sl TCommit)))))))
abbrev DMessage := Int × Int × Int × Int × (List DStart) × Int × Int × (List DCommit)
instance decMessage : DecidableEq DMessage := (@instDecidableEqProd _ _ inferInstance (@instDecidableEqProd _ _ inferInstance (@instDecidableEqProd _ _ inferInstance (@instDecidableEqProd _ _ inferInstance (@instDecidableEqProd _ _ inferInstance (@instDecidableEqProd _ _ inferInstance (@instDecidableEqProd _ _ inferInstance inferInstance)))))))
theorem open_Message {m : Mem} {cs : List Value} {x0 : Int} {x1 : Int} {x2 : Int} {x3 : Int} {x4 : List DStart} {x5 : Int} {x6 : Int} {x7 : List DCommit} (h : Rd TMessage m cs (x0, x1, x2, x3, x4, x5, x6, x7)) : ∃ (A4 : Option Addr), ∃ (c4 : Nat), ∃ (A7 : Option Addr), ∃ (c7 : Nat), cs = [(.int .i64 x0 : Value), .int .i64 x1, .int .u8 x2, .int .i64 x3, .slice A4 x4.length c4, .int .i64 x5, .int .i64 x6, .slice A7 x7.length c7] ∧ inK .i64 x0 ∧ inK .i64 x1 ∧ inK .u8 x2 ∧ inK .i64 x3 ∧ Rd (.sl TStart) m [.slice A4 x4.length c4] x4 ∧ inK .i64 x5 ∧ inK .i64 x6 ∧ Rd (.sl TCommit) m [.slice A7 x7.length c7] x7 := by
  obtain ⟨p1, q1, rfl, u1, w1⟩ := Rd.pair h
  obtain ⟨rfl, z2⟩ := (show _ = _ ∧ _ from u1)
  obtain ⟨p3, q3, rfl, u3, w3⟩ := Rd.pair w1
  obtain ⟨rfl, z4⟩ := (show _ = _ ∧ _ from u3)
  obtain ⟨p5, q5, rfl, u5, w5⟩ := Rd.pair w3
  obtain ⟨rfl, z6⟩ := (show _ = _ ∧ _ from u5)
  obtain ⟨p7, q7, rfl, u7, w7⟩ := Rd.pair w5
  obtain ⟨rfl, z8⟩ := (show _ = _ ∧ _ from u7)
  obtain ⟨p9, q9, rfl, u9, w9⟩ := Rd.pair w7
  have z10 := u9
  obtain ⟨A10, c10, rfl, _⟩ := Rd.slice1 u9
  obtain ⟨p11, q11, rfl, u11, w11⟩ := Rd.pair w9
  obtain ⟨rfl, z12⟩ := (show _ = _ ∧ _ from u11)
  obtain ⟨p13, q13, rfl, u13, w13⟩ := Rd.pair w11
  obtain ⟨rfl, z14⟩ := (show _ = _ ∧ _ from u13)
  have z15 := w13
  obtain ⟨A15, c15, rfl, _⟩ := Rd.slice1 w13
  exact ⟨A10, c10, A15, c15, rfl, z2, z4, z6, z8, z10, z12, z14, z15⟩
theorem mk_Message {m : Mem} (x0 : Int) (x1 : Int) (x2 : Int) (x3 : Int) (x4 : List DStart) (x5 : Int) (x6 : Int) (x7 : List DCommit) (h0 : inK .i64 x0) (h1 : inK .i64 x1) (h2 : inK .u8 x2) (h3 : inK .i64 x3) {v4 : Value} (h4 : Rd (.sl TStart) m [v4] x4) (h5 : inK .i64 x5) (h6 : inK .i64 x6) {v7 : Value} (h7 : Rd (.sl TCommit) m [v7] x7) : Rd TMessage m [.int .i64 x0, .int .i64 x1, .int .u8 x2, .int .i64 x3, v4, .int .i64 x5, .int .i64 x6, v7] (x0, x1, x2, x3, x4, x5, x6, x7) := (Rd.mkPair (c1 := [_]) (show Rd (.int .i64) m [_] _ from ⟨rfl, h0⟩) (Rd.mkPair (c1 := [_]) (show Rd (.int .i64) m [_] _ from ⟨rfl, h1⟩) (Rd.mkPair (c1 := [_]) (show Rd (.int .u8) m [_] _ from ⟨rfl, h2⟩) (Rd.mkPair (c1 := [_]) (show Rd (.int .i64) m [_] _ from ⟨rfl, h3⟩) (Rd.mkPair (c1 := [_]) h4 (Rd.mkPair (c1 := [_]) (show Rd (.int .i64) m [_] _ from ⟨rfl, h5⟩) (Rd.mkPair (c1 := [_]) (show Rd (.int .i64) m [_] _ from ⟨rfl, h6⟩) h7)))))))
theorem openO_Message {m : Mem} {cs : List Value} {x0 : Int} {x1 : Int} {x2 : Int} {x3 : Int} {x4 : List DStart} {x5 : Int} {x6 : Int} {x7 : List DCommit} (h : Ow TMessage m cs (x0, x1, x2, x3, x4, x5, x6, x7)) : ∃ (A4 : Option Addr), ∃ (c4 : Nat), ∃ (A7 : Option Addr), ∃ (c7 : Nat), ∃ (n4 : Mem), ∃ (n7 : Mem), cs = [(.int .i64 x0 : Value), .int .i64 x1, .int .u8 x2, .int .i64 x3, .slice A4 x4.length c4, .int .i64 x5, .int .i64 x6, .slice A7 x7.length c7] ∧ Seps m [n4, n7] ∧ inK .i64 x0 ∧ inK .i64 x1 ∧ inK .u8 x2 ∧ inK .i64 x3 ∧ Ow (.sl TStart) n4 [.slice A4 x4.length c4] x4 ∧ inK .i64 x5 ∧ inK .i64 x6 ∧ Ow (.sl TCommit) n7 [.slice A7 x7.length c7] x7 := by
  obtain ⟨p1, q1, ma1, mb1, rfl, dj1, la1, lb1, u1, w1⟩ := Ow.pair h
  obtain ⟨rfl, z2⟩ := (show _ = _ ∧ _ from u1)
  obtain ⟨p3, q3, ma3, mb3, rfl, dj3, la3, lb3, u3, w3⟩ := Ow.pair w1
  obtain ⟨rfl, z4⟩ := (show _ = _ ∧ _ from u3)
  obtain ⟨p5, q5, ma5, mb5, rfl, dj5, la5, lb5, u5, w5⟩ := Ow.pair w3
  obtain ⟨rfl, z6⟩ := (show _ = _ ∧ _ from u5)
  obtain ⟨p7, q7, ma7, mb7, rfl, dj7, la7, lb7, u7, w7⟩ := Ow.pair w5
  obtain ⟨rfl, z8⟩ := (show _ = _ ∧ _ from u7)
  obtain ⟨p9, q9, ma9, mb9, rfl, dj9, la9, lb9, u9, w9⟩ := Ow.pair w7
  have z10 := u9
  obtain ⟨A10, c10, rfl, _⟩ := Ow.slice1 u9
  obtain ⟨p11, q11, ma11, mb11, rfl, dj11, la11, lb11, u11, w11⟩ := Ow.pair w9
  obtain ⟨rfl, z12⟩ := (show _ = _ ∧ _ from u11)
  obtain ⟨p13, q13, ma13, mb13, rfl, dj13, la13, lb13, u13, w13⟩ := Ow.pair w11
  obtain ⟨rfl, z14⟩ := (show _ = _ ∧ _ from u13)
  have z15 := w13
  obtain ⟨A15, c15, rfl, _⟩ := Ow.slice1 w13
  exact ⟨A10, c10, A15, c15, _, _, rfl, (Seps.app dj1 la1 lb1 (Seps.nil _) (Seps.app dj3 la3 lb3 (Seps.nil _) (Seps.app dj5 la5 lb5 (Seps.nil _) (Seps.app dj7 la7 lb7 (Seps.nil _) (Seps.app dj9 la9 lb9 (Seps.one (mle_refl _)) (Seps.app dj11 la11 lb11 (Seps.nil _) (Seps.app dj13 la13 lb13 (Seps.nil _) (Seps.one (mle_refl _))))))))), z2, z4, z6, z8, z10, z12, z14, z15⟩
theorem mkO_Message {m : Mem} {n4 n7 : Mem} (x0 : Int) (x1 : Int) (x2 : Int) (x3 : Int) (x4 : List DStart) (x5 : Int) (x6 : Int) (x7 : List DCommit) (hS : Seps m [n4, n7]) (h0 : inK .i64 x0) (h1 : inK .i64 x1) (h2 : inK .u8 x2) (h3 : inK .i64 x3) {v4 : Value} (h4 : Ow (.sl TStart) n4 [v4] x4) (h5 : inK .i64 x5) (h6 : inK .i64 x6) {v7 : Value} (h7 : Ow (.sl TCommit) n7 [v7] x7) : Ow TMessage m [.int .i64 x0, .int .i64 x1, .int .u8 x2, .int .i64 x3, v4, .int .i64 x5, .int .i64 x6, v7] (x0, x1, x2, x3, x4, x5, x6, x7) := by
  obtain ⟨e1, la1, lb1, Sa1, Sb1⟩ := Seps.cut (l := []) (r := [n4, n7]) hS
  obtain ⟨e2, la2, lb2, Sa2, Sb2⟩ := Seps.cut (l := []) (r := [n4, n7]) Sb1
  obtain ⟨e3, la3, lb3, Sa3, Sb3⟩ := Seps.cut (l := []) (r := [n4, n7]) Sb2
  obtain ⟨e4, la4, lb4, Sa4, Sb4⟩ := Seps.cut (l := []) (r := [n4, n7]) Sb3
  obtain ⟨e5, la5, lb5, Sa5, Sb5⟩ := Seps.cut (l := [n4]) (r := [n7]) Sb4
  obtain ⟨e6, la6, lb6, Sa6, Sb6⟩ := Seps.cut (l := []) (r := [n7]) Sb5
  obtain ⟨e7, la7, lb7, Sa7, Sb7⟩ := Seps.cut (l := []) (r := [n7]) Sb6
  exact (Ow.mkPair (c1 := [_]) e1 la1 lb1 (show Ow (.int .i64) _ [_] _ from ⟨rfl, h0⟩) (Ow.mkPair (c1 := [_]) e2 la2 lb2 (show Ow (.int .i64) _ [_] _ from ⟨rfl, h1⟩) (Ow.mkPair (c1 := [_]) e3 la3 lb3 (show Ow (.int .u8) _ [_] _ from ⟨rfl, h2⟩) (Ow.mkPair (c1 := [_]) e4 la4 lb4 (show Ow (.int .i64) _ [_] _ from ⟨rfl, h3⟩) (Ow.mkPair (c1 := [_]) e5 la5 lb5 (h4.up (Sa5.1 _ (.head _))) (Ow.mkPair (c1 := [_]) e6 la6 lb6 (show Ow (.int .i64) _ [_] _ from ⟨rfl, h5⟩) (Ow.mkPair (c1 := [_]) e7 la7 lb7 (show Ow (.int .i64) _ [_] _ from ⟨rfl, h6⟩) (h7.up (Sb7.1 _ (.head _))))))))))
end Go.Proofs.Ytfaknkkaegjdaaa
