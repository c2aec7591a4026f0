/- Part 3 of the proof of LRunNames: what it needs of the library, the walks and the plain laws. Conditions: those named in each theorem. -/
import Derived.Test.YtgmdjhdgaddigaaLRunNamesM2
set_option linter.unusedVariables false
set_option linter.unusedSimpArgs false
set_option maxRecDepth 4000
namespace Go.Proofs.Ytgmdjhdgaddigaa
abbrev Tdiskstep : Ty := .pair (.int .i64) (.pair (.int .i64) (.pair (.sl .byte) (.int .i64)))
abbrev Ddiskstep := Int × Int × (List UInt8) × Int
instance decdiskstep : DecidableEq Ddiskstep := (@instDecidableEqProd _ _ inferInstance (@instDecidableEqProd _ _ inferInstance (@instDecidableEqProd _ _ inferInstance inferInstance)))
theorem open_diskstep {m : Mem} {cs : List Value} {x0 : Int} {x1 : Int} {x2 : List UInt8} {x3 : Int} (h : Rd Tdiskstep m cs (x0, x1, x2, x3)) : ∃ (A2 : Option Addr), ∃ (c2 : Nat), cs = [(.int .i64 x0 : Value), .int .i64 x1, .slice A2 x2.length c2, .int .i64 x3] ∧ inK .i64 x0 ∧ inK .i64 x1 ∧ Rd (.sl .byte) m [.slice A2 x2.length c2] x2 ∧ inK .i64 x3 := by
  obtain ⟨p1, q1, rfl, u1, w1⟩ := Rd.pair h
  obtain ⟨rfl, z2⟩ := (show _ = _ ∧ _ from u1)
  obtain ⟨p3, q3, rfl, u3, w3⟩ := Rd.pair w1
  obtain ⟨rfl, z4⟩ := (show _ = _ ∧ _ from u3)
  obtain ⟨p5, q5, rfl, u5, w5⟩ := Rd.pair w3
  have z6 := u5
  obtain ⟨A6, c6, rfl, _⟩ := Rd.slice1 u5
  obtain ⟨rfl, z7⟩ := (show _ = _ ∧ _ from w5)
  exact ⟨A6, c6, rfl, z2, z4, z6, z7⟩
theorem mkO_diskstep {m : Mem} {n2 : Mem} (x0 : Int) (x1 : Int) (x2 : List UInt8) (x3 : Int) (hS : Seps m [n2]) (h0 : inK .i64 x0) (h1 : inK .i64 x1) {v2 : Value} (h2 : Ow (.sl .byte) n2 [v2] x2) (h3 : inK .i64 x3) : Ow Tdiskstep m [.int .i64 x0, .int .i64 x1, v2, .int .i64 x3] (x0, x1, x2, x3) := by
  obtain ⟨e1, la1, lb1, Sa1, Sb1⟩ := Seps.cut (l := []) (r := [n2]) hS
  obtain ⟨e2, la2, lb2, Sa2, Sb2⟩ := Seps.cut (l := []) (r := [n2]) Sb1
  obtain ⟨e3, la3, lb3, Sa3, Sb3⟩ := Seps.cut (l := [n2]) (r := []) Sb2
  exact (Ow.mkPair (c1 := [_]) e1 la1 lb1 (show Ow (.int .i64) _ [_] _ from ⟨rfl, h0⟩) (Ow.mkPair (c1 := [_]) e2 la2 lb2 (show Ow (.int .i64) _ [_] _ from ⟨rfl, h1⟩) (Ow.mkPair (c1 := [_]) e3 la3 lb3 (h2.up (Sa3.1 _ (.head _))) (show Ow (.int .i64) _ [_] _ from ⟨rfl, h3⟩))))
abbrev TdiskDisk : Ty := .pair .bool (.pair .bool (.pair .bool (.pair (.int .i64) (.pair (.int .i64) (.pair (.pair (.sl .byte) (.pair (.sl .byte) (.pair (.sl .byte) (.sl .byte)))) (.sl Tdiskstep))))))
abbrev DdiskDisk := Bool × Bool × Bool × Int × Int × ((List UInt8) × (List UInt8) × (List UInt8) × (List UInt8)) × (List Ddiskstep)
instance decdiskDisk : DecidableEq DdiskDisk := (@instDecidableEqProd _ _ inferInstance (@instDecidableEqProd _ _ inferInstance (@instDecidableEqProd _ _ inferInstance (@instDecidableEqProd _ _ inferInstance (@instDecidableEqProd _ _ inferInstance (@instDecidableEqProd _ _ (@instDecidableEqProd _ _ inferInstance (@instDecidableEqProd _ _ inferInstance (@instDecidableEqProd _ _ inferInstance inferInstance))) inferInstance))))))
theorem openO_diskDisk {m : Mem} {cs : List Value} {x0 : Bool} {x1 : Bool} {x2 : Bool} {x3 : Int} {x4 : Int} {x5 : List UInt8} {x6 : List UInt8} {x7 : List UInt8} {x8 : List UInt8} {x9 : List Ddiskstep} (h : Ow TdiskDisk m cs (x0, x1, x2, x3, x4, (x5, x6, x7, x8), x9)) : ∃ (A5 : Option Addr), ∃ (c5 : Nat), ∃ (A6 : Option Addr), ∃ (c6 : Nat), ∃ (A7 : Option Addr), ∃ (c7 : Nat), ∃ (A8 : Option Addr), ∃ (c8 : Nat), ∃ (A9 : Option Addr), ∃ (c9 : Nat), ∃ (n5 : Mem), ∃ (n6 : Mem), ∃ (n7 : Mem), ∃ (n8 : Mem), ∃ (n9 : Mem), cs = [(.bool x0 : Value), .bool x1, .bool x2, .int .i64 x3, .int .i64 x4, .slice A5 x5.length c5, .slice A6 x6.length c6, .slice A7 x7.length c7, .slice A8 x8.length c8, .slice A9 x9.length c9] ∧ Seps m [n5, n6, n7, n8, n9] ∧ inK .i64 x3 ∧ inK .i64 x4 ∧ Ow (.sl .byte) n5 [.slice A5 x5.length c5] x5 ∧ Ow (.sl .byte) n6 [.slice A6 x6.length c6] x6 ∧ Ow (.sl .byte) n7 [.slice A7 x7.length c7] x7 ∧ Ow (.sl .byte) n8 [.slice A8 x8.length c8] x8 ∧ Ow (.sl Tdiskstep) n9 [.slice A9 x9.length c9] x9 := by
  obtain ⟨p1, q1, ma1, mb1, rfl, dj1, la1, lb1, u1, w1⟩ := Ow.pair h
  obtain rfl := (show _ = _ from u1)
  obtain ⟨p3, q3, ma3, mb3, rfl, dj3, la3, lb3, u3, w3⟩ := Ow.pair w1
  obtain rfl := (show _ = _ from u3)
  obtain ⟨p5, q5, ma5, mb5, rfl, dj5, la5, lb5, u5, w5⟩ := Ow.pair w3
  obtain rfl := (show _ = _ from u5)
  obtain ⟨p7, q7, ma7, mb7, rfl, dj7, la7, lb7, u7, w7⟩ := Ow.pair w5
  obtain ⟨rfl, z8⟩ := (show _ = _ ∧ _ from u7)
  obtain ⟨p9, q9, ma9, mb9, rfl, dj9, la9, lb9, u9, w9⟩ := Ow.pair w7
  obtain ⟨rfl, z10⟩ := (show _ = _ ∧ _ from u9)
  obtain ⟨p11, q11, ma11, mb11, rfl, dj11, la11, lb11, u11, w11⟩ := Ow.pair w9
  obtain ⟨p12, q12, ma12, mb12, rfl, dj12, la12, lb12, u12, w12⟩ := Ow.pair u11
  have z13 := u12
  obtain ⟨A13, c13, rfl, _⟩ := Ow.slice1 u12
  obtain ⟨p14, q14, ma14, mb14, rfl, dj14, la14, lb14, u14, w14⟩ := Ow.pair w12
  have z15 := u14
  obtain ⟨A15, c15, rfl, _⟩ := Ow.slice1 u14
  obtain ⟨p16, q16, ma16, mb16, rfl, dj16, la16, lb16, u16, w16⟩ := Ow.pair w14
  have z17 := u16
  obtain ⟨A17, c17, rfl, _⟩ := Ow.slice1 u16
  have z18 := w16
  obtain ⟨A18, c18, rfl, _⟩ := Ow.slice1 w16
  have z19 := w11
  obtain ⟨A19, c19, rfl, _⟩ := Ow.slice1 w11
  exact ⟨A13, c13, A15, c15, A17, c17, A18, c18, A19, c19, _, _, _, _, _, rfl, (Seps.app dj1 la1 lb1 (Seps.nil _) (Seps.app dj3 la3 lb3 (Seps.nil _) (Seps.app dj5 la5 lb5 (Seps.nil _) (Seps.app dj7 la7 lb7 (Seps.nil _) (Seps.app dj9 la9 lb9 (Seps.nil _) (Seps.app dj11 la11 lb11 (Seps.app dj12 la12 lb12 (Seps.one (mle_refl _)) (Seps.app dj14 la14 lb14 (Seps.one (mle_refl _)) (Seps.app dj16 la16 lb16 (Seps.one (mle_refl _)) (Seps.one (mle_refl _))))) (Seps.one (mle_refl _)))))))), z8, z10, z13, z15, z17, z18, z19⟩
theorem mkO_diskDisk {m : Mem} {n5 n6 n7 n8 n9 : Mem} (x0 : Bool) (x1 : Bool) (x2 : Bool) (x3 : Int) (x4 : Int) (x5 : List UInt8) (x6 : List UInt8) (x7 : List UInt8) (x8 : List UInt8) (x9 : List Ddiskstep) (hS : Seps m [n5, n6, n7, n8, n9]) (h3 : inK .i64 x3) (h4 : inK .i64 x4) {v5 : Value} (h5 : Ow (.sl .byte) n5 [v5] x5) {v6 : Value} (h6 : Ow (.sl .byte) n6 [v6] x6) {v7 : Value} (h7 : Ow (.sl .byte) n7 [v7] x7) {v8 : Value} (h8 : Ow (.sl .byte) n8 [v8] x8) {v9 : Value} (h9 : Ow (.sl Tdiskstep) n9 [v9] x9) : Ow TdiskDisk m [.bool x0, .bool x1, .bool x2, .int .i64 x3, .int .i64 x4, v5, v6, v7, v8, v9] (x0, x1, x2, x3, x4, (x5, x6, x7, x8), x9) := by
  obtain ⟨e1, la1, lb1, Sa1, Sb1⟩ := Seps.cut (l := []) (r := [n5, n6, n7, n8, n9]) hS
  obtain ⟨e2, la2, lb2, Sa2, Sb2⟩ := Seps.cut (l := []) (r := [n5, n6, n7, n8, n9]) Sb1
  obtain ⟨e3, la3, lb3, Sa3, Sb3⟩ := Seps.cut (l := []) (r := [n5, n6, n7, n8, n9]) Sb2
  obtain ⟨e4, la4, lb4, Sa4, Sb4⟩ := Seps.cut (l := []) (r := [n5, n6, n7, n8, n9]) Sb3
  obtain ⟨e5, la5, lb5, Sa5, Sb5⟩ := Seps.cut (l := []) (r := [n5, n6, n7, n8, n9]) Sb4
  obtain ⟨e6, la6, lb6, Sa6, Sb6⟩ := Seps.cut (l := [n5, n6, n7, n8]) (r := [n9]) Sb5
  obtain ⟨e7, la7, lb7, Sa7, Sb7⟩ := Seps.cut (l := [n5]) (r := [n6, n7, n8]) Sa6
  obtain ⟨e8, la8, lb8, Sa8, Sb8⟩ := Seps.cut (l := [n6]) (r := [n7, n8]) Sb7
  obtain ⟨e9, la9, lb9, Sa9, Sb9⟩ := Seps.cut (l := [n7]) (r := [n8]) Sb8
  exact (Ow.mkPair (c1 := [_]) e1 la1 lb1 (show Ow .bool _ [_] _ from rfl) (Ow.mkPair (c1 := [_]) e2 la2 lb2 (show Ow .bool _ [_] _ from rfl) (Ow.mkPair (c1 := [_]) e3 la3 lb3 (show Ow .bool _ [_] _ from rfl) (Ow.mkPair (c1 := [_]) e4 la4 lb4 (show Ow (.int .i64) _ [_] _ from ⟨rfl, h3⟩) (Ow.mkPair (c1 := [_]) e5 la5 lb5 (show Ow (.int .i64) _ [_] _ from ⟨rfl, h4⟩) (Ow.mkPair (c1 := [_, _, _, _]) e6 la6 lb6 (Ow.mkPair (c1 := [_]) e7 la7 lb7 (h5.up (Sa7.1 _ (.head _))) (Ow.mkPair (c1 := [_]) e8 la8 lb8 (h6.up (Sa8.1 _ (.head _))) (Ow.mkPair (c1 := [_]) e9 la9 lb9 (h7.up (Sa9.1 _ (.head _))) (h8.up (Sb9.1 _ (.head _)))))) (h9.up (Sb6.1 _ (.head _)))))))))
theorem openP_diskDisk {m : Mem} {cs : List Value} {g : Nat} {x0 : Bool} {x1 : Bool} {x2 : Bool} {x3 : Int} {x4 : Int} {x5 : List UInt8} {x6 : List UInt8} {x7 : List UInt8} {x8 : List UInt8} {x9 : List Ddiskstep} (h : Ow (.ptr TdiskDisk) m cs (g, (x0, x1, x2, x3, x4, (x5, x6, x7, x8), x9))) : ∃ (E : TypeId), ∃ (A5 : Option Addr), ∃ (c5 : Nat), ∃ (A6 : Option Addr), ∃ (c6 : Nat), ∃ (A7 : Option Addr), ∃ (c7 : Nat), ∃ (A8 : Option Addr), ∃ (c8 : Nat), ∃ (A9 : Option Addr), ∃ (c9 : Nat), ∃ (n5 : Mem), ∃ (n6 : Mem), ∃ (n7 : Mem), ∃ (n8 : Mem), ∃ (n9 : Mem), cs = [.pointer (some ⟨g, 0, none⟩)] ∧ Seps m [mone g (.cells [(.bool x0 : Value), .bool x1, .bool x2, .int .i64 x3, .int .i64 x4, .slice A5 x5.length c5, .slice A6 x6.length c6, .slice A7 x7.length c7, .slice A8 x8.length c8, .slice A9 x9.length c9].toArray E (0, 0)), n5, n6, n7, n8, n9] ∧ inK .i64 x3 ∧ inK .i64 x4 ∧ Ow (.sl .byte) n5 [.slice A5 x5.length c5] x5 ∧ Ow (.sl .byte) n6 [.slice A6 x6.length c6] x6 ∧ Ow (.sl .byte) n7 [.slice A7 x7.length c7] x7 ∧ Ow (.sl .byte) n8 [.slice A8 x8.length c8] x8 ∧ Ow (.sl Tdiskstep) n9 [.slice A9 x9.length c9] x9 := by
  obtain ⟨rfl, rc, E, m1, hd, l0, l1, h1⟩ := Ow.opnP h
  obtain ⟨A5, c5, A6, c6, A7, c7, A8, c8, A9, c9, n5, n6, n7, n8, n9, rfl, hS, f3, f4, f5, f6, f7, f8, f9⟩ := openO_diskDisk h1
  exact ⟨E, A5, c5, A6, c6, A7, c7, A8, c8, A9, c9, n5, n6, n7, n8, n9, rfl, Seps.app hd l0 l1 (Seps.one (mle_refl _)) hS, f3, f4, f5, f6, f7, f8, f9⟩
theorem mkP_diskDisk {m : Mem} {g : Nat} {E : TypeId} {n5 n6 n7 n8 n9 : Mem}{v5 : Value}{v6 : Value}{v7 : Value}{v8 : Value}{v9 : Value} (x0 : Bool) (x1 : Bool) (x2 : Bool) (x3 : Int) (x4 : Int) (x5 : List UInt8) (x6 : List UInt8) (x7 : List UInt8) (x8 : List UInt8) (x9 : List Ddiskstep) (hS : Seps m [mone g (.cells [.bool x0, .bool x1, .bool x2, .int .i64 x3, .int .i64 x4, v5, v6, v7, v8, v9].toArray E (0, 0)), n5, n6, n7, n8, n9]) (h3 : inK .i64 x3) (h4 : inK .i64 x4) (h5 : Ow (.sl .byte) n5 [v5] x5) (h6 : Ow (.sl .byte) n6 [v6] x6) (h7 : Ow (.sl .byte) n7 [v7] x7) (h8 : Ow (.sl .byte) n8 [v8] x8) (h9 : Ow (.sl Tdiskstep) n9 [v9] x9) : Ow (.ptr TdiskDisk) m [.pointer (some ⟨g, 0, none⟩)] (g, (x0, x1, x2, x3, x4, (x5, x6, x7, x8), x9)) :=
  Ow.clsP hS fun hS => mkO_diskDisk x0 x1 x2 x3 x4 x5 x6 x7 x8 x9 hS h3 h4 h5 h6 h7 h8 h9
abbrev Dref05Raw := Int × Bool × Int × (List UInt8)
instance decref05Raw : DecidableEq Dref05Raw := (@instDecidableEqProd _ _ inferInstance (@instDecidableEqProd _ _ inferInstance (@instDecidableEqProd _ _ inferInstance inferInstance)))
abbrev Dref05Disk := Bool × ((List UInt8) × (List UInt8) × (List UInt8) × (List UInt8)) × (List Dref05Raw) × Bool × Bool × Int × Int
instance decref05Disk : DecidableEq Dref05Disk := (@instDecidableEqProd _ _ inferInstance (@instDecidableEqProd _ _ (@instDecidableEqProd _ _ inferInstance (@instDecidableEqProd _ _ inferInstance (@instDecidableEqProd _ _ inferInstance inferInstance))) (@instDecidableEqProd _ _ inferInstance (@instDecidableEqProd _ _ inferInstance (@instDecidableEqProd _ _ inferInstance (@instDecidableEqProd _ _ inferInstance inferInstance))))))
abbrev Dlaw05Act := Int × Int × Int × Int × (List UInt8)
instance declaw05Act : DecidableEq Dlaw05Act := (@instDecidableEqProd _ _ inferInstance (@instDecidableEqProd _ _ inferInstance (@instDecidableEqProd _ _ inferInstance (@instDecidableEqProd _ _ inferInstance inferInstance))))
abbrev Dur := Bytes × Bytes × Bytes × Bytes
abbrev DStep := Ddiskstep
abbrev DDisk := DdiskDisk
def getF (q : Dur) (f : Int) : Bytes := if f = 0 then q.1 else if f = 1 then q.2.1 else if f = 2 then q.2.2.1 else q.2.2.2
def setF (q : Dur) (f : Int) (b : Bytes) : Dur := if f = 0 then (b, q.2) else if f = 1 then (q.1, b, q.2.2) else if f = 2 then (q.1, q.2.1, b, q.2.2.2) else (q.1, q.2.1, q.2.2.1, b)
def doneB (b : Bytes) (s : DStep) : Bytes := if s.1 = 0 then b ++ s.2.2.1 else if s.1 = 1 then b.take s.2.2.2.toNat else b
def stepQ (q : Dur) (s : DStep) : Dur := setF q s.2.1 (doneB (getF q s.2.1) s)
def play (q : Dur) (l : List DStep) : Dur := l.foldl stepQ q
def heldStep (f : Int) (b : Bytes) (s : DStep) : Bytes := if s.2.1 = f then doneB b s else b
def heldB (q : Dur) (l : List DStep) (f : Int) : Bytes := l.foldl (heldStep f) (getF q f)
def inF (f : Int) : Prop := 0 ≤ f ∧ f < 4
instance (f : Int) : Decidable (inF f) := by unfold inF; infer_instance
theorem get_set {q : Dur} {f g : Int} {b : Bytes} (hf : inF f) (hg : inF g) : getF (setF q f b) g = if f = g then b else getF q g := by
  obtain ⟨h0, h1⟩ := hf; obtain ⟨h2, h3⟩ := hg
  obtain rfl | rfl | rfl | rfl : f = 0 ∨ f = 1 ∨ f = 2 ∨ f = 3 := by omega
  all_goals obtain rfl | rfl | rfl | rfl : g = 0 ∨ g = 1 ∨ g = 2 ∨ g = 3 := by omega
  all_goals rfl
/-- A step that may be pending. -/
def goodSt (q : Dur) (s : DStep) : Prop := (s.1 = 0 ∨ s.1 = 1) ∧ inF s.2.1 ∧ (s.1 = 0 → 1 ≤ s.2.2.1.length ∧ s.2.2.1.length ≤ 64) ∧ (s.1 = 1 → 0 ≤ s.2.2.2 ∧ s.2.2.2 ≤ (getF q s.2.1).length)
def goodL : Dur → List DStep → Prop
  | _, [] => True
  | q, s :: r => goodSt q s ∧ goodL (stepQ q s) r
theorem goodL_app : ∀ {l r : List DStep} {q : Dur}, goodL q (l ++ r) ↔ goodL q l ∧ goodL (play q l) r
  | [], r, q => by simp [goodL, play]
  | s :: l, r, q => by
    show goodSt q s ∧ goodL (stepQ q s) (l ++ r) ↔ (goodSt q s ∧ goodL (stepQ q s) l) ∧ goodL (play (stepQ q s) l) r
    rw [goodL_app (l := l), and_assoc]
theorem play_held : ∀ {l : List DStep} {q : Dur} {f : Int}, goodL q l → inF f → getF (play q l) f = heldB q l f
  | [], q, f, _, _ => rfl
  | s :: l, q, f, h, hf => by
    show getF (play (stepQ q s) l) f = _
    rw [play_held h.2 hf]
    show l.foldl (heldStep f) (getF (stepQ q s) f) = l.foldl (heldStep f) (heldStep f (getF q f) s)
    rw [stepQ, get_set h.1.2.1 hf]
    unfold heldStep
    split
    · rename_i he; rw [he]
    · rfl
def sizeQ (q : Dur) : Nat := q.1.length + q.2.1.length + q.2.2.1.length + q.2.2.2.length
def sizeL (l : List DStep) : Nat := (l.map fun s => s.2.2.1.length).sum
theorem sizeL_cons (s : DStep) (l : List DStep) : sizeL (s :: l) = s.2.2.1.length + sizeL l := by simp [sizeL]
theorem sizeL_app (l r : List DStep) : sizeL (l ++ r) = sizeL l + sizeL r := by simp [sizeL]
theorem getF_size (q : Dur) (f : Int) : (getF q f).length ≤ sizeQ q := by unfold getF sizeQ; split <;> (try split) <;> (try split) <;> omega
theorem setF_size {q : Dur} {f : Int} {b : Bytes} : sizeQ (setF q f b) + (getF q f).length = sizeQ q + b.length := by
  unfold setF getF sizeQ
  split
  · dsimp only; omega
  · split
    · dsimp only; omega
    · split <;> (dsimp only; omega)
theorem doneB_size (b : Bytes) (s : DStep) : (doneB b s).length ≤ b.length + s.2.2.1.length := by
  unfold doneB
  split
  · simp
  · split
    · simp only [List.length_take]; omega
    · omega
theorem stepQ_size (q : Dur) (s : DStep) : sizeQ (stepQ q s) ≤ sizeQ q + s.2.2.1.length := by
  have := setF_size (q := q) (f := s.2.1) (b := doneB (getF q s.2.1) s)
  have := doneB_size (getF q s.2.1) s
  unfold stepQ
  omega
theorem play_size : ∀ (l : List DStep) (q : Dur), sizeQ (play q l) ≤ sizeQ q + sizeL l
  | [], q => by simp [play, sizeL]
  | s :: l, q => by
    have h1 := play_size l (stepQ q s)
    have h2 := stepQ_size q s
    rw [sizeL_cons]
    show sizeQ (play (stepQ q s) l) ≤ _
    omega
theorem foldl_heldStep_size (f : Int) : ∀ (l : List DStep) (b : Bytes), (l.foldl (heldStep f) b).length ≤ b.length + sizeL l
  | [], b => by simp [sizeL]
  | s :: l, b => by
    have h1 := foldl_heldStep_size f l (heldStep f b s)
    have h2 : (heldStep f b s).length ≤ b.length + s.2.2.1.length := by
      unfold heldStep
      split
      · exact doneB_size b s
      · omega
    rw [sizeL_cons, List.foldl_cons]; omega
theorem heldB_size (q : Dur) (l : List DStep) (f : Int) : (heldB q l f).length ≤ sizeQ q + sizeL l := by
  have := foldl_heldStep_size f l (getF q f)
  have := getF_size q f
  unfold heldB; omega
def okD (d : DDisk) : Prop := goodL d.2.2.2.2.2.1 d.2.2.2.2.2.2 ∧ 0 ≤ d.2.2.2.1 ∧ 0 ≤ d.2.2.2.2.1
def wD (d : DDisk) : Nat := sizeQ d.2.2.2.2.2.1 + sizeL d.2.2.2.2.2.2 + d.2.2.2.2.2.2.length + d.2.2.2.2.1.toNat
def newD : DDisk := (true, false, false, 0, 0, ([], [], [], []), [])
theorem okD_new : okD newD := ⟨trivial, Int.le_refl _, Int.le_refl _⟩
def wrongD (d : DDisk) : Int := if d.1 = false then 1 else if d.2.1 = true then 6 else 0
def burnD (d : DDisk) : DDisk × Bool := if d.2.2.1 = true then (if d.2.2.2.1 = 0 then ((d.1, true, d.2.2), false) else ((d.1, d.2.1, d.2.2.1, d.2.2.2.1 - 1, d.2.2.2.2.1 + 1, d.2.2.2.2.2), true)) else ((d.1, d.2.1, d.2.2.1, d.2.2.2.1, d.2.2.2.2.1 + 1, d.2.2.2.2.2), true)
def addP (d : DDisk) (s : DStep) : DDisk := (d.1, d.2.1, d.2.2.1, d.2.2.2.1, d.2.2.2.2.1, d.2.2.2.2.2.1, d.2.2.2.2.2.2 ++ [s])
theorem getF0 {q : Dur} {f : Int} (h : f = 0) : getF q f = q.1 := by subst h; rfl
theorem getF1 {q : Dur} {f : Int} (h : f = 1) : getF q f = q.2.1 := by subst h; rfl
theorem getF2 {q : Dur} {f : Int} (h : f = 2) : getF q f = q.2.2.1 := by subst h; rfl
theorem getF3 {q : Dur} {f : Int} (h : f = 3) : getF q f = q.2.2.2 := by subst h; rfl
theorem setQ0 {q : Dur} {f : Int} {b : Bytes} (h : f = 0) : setF q f b = (b, q.2) := by subst h; rfl
theorem setQ1 {q : Dur} {f : Int} {b : Bytes} (h : f = 1) : setF q f b = (q.1, b, q.2.2) := by subst h; rfl
theorem setQ2 {q : Dur} {f : Int} {b : Bytes} (h : f = 2) : setF q f b = (q.1, q.2.1, b, q.2.2.2) := by subst h; rfl
theorem setQ3 {q : Dur} {f : Int} {b : Bytes} (h : f = 3) : setF q f b = (q.1, q.2.1, q.2.2.1, b) := by subst h; rfl
def settleD (d : DDisk) (k : Nat) : DDisk := (d.1, d.2.1, d.2.2.1, d.2.2.2.1, d.2.2.2.2.1, play d.2.2.2.2.2.1 (d.2.2.2.2.2.2.take k), d.2.2.2.2.2.2.drop k)
theorem get_take {α : Type} {l : List α} {n k : Nat} {x : α} (h : (l.take n)[k]? = some x) : l[k]? = some x := by
  rw [List.getElem?_take] at h
  split at h
  · exact h
  · cases h
theorem drop_split {α : Type} {l : List α} {k : Nat} {x : α} (h : l[k]? = some x) : l = l.take k ++ x :: l.drop (k + 1) := by
  obtain ⟨h1, h2⟩ := List.getElem?_eq_some_iff.1 h
  rw [← h2, ← List.drop_eq_getElem_cons h1, List.take_append_drop]
section
variable {q : Dur} {l : List DStep} {f : Int} {b : Bytes} {k : Nat} {s : DStep}
theorem held_next (hb : b = heldB q (l.take k) f) (hs : l[k]? = some s) : heldStep f b s = heldB q (l.take (k + 1)) f := by
  rw [hb, heldB, heldB, List.take_add_one, hs, List.foldl_append]; rfl
theorem held_yes (hb : b = heldB q (l.take k) f) (hs : l[k]? = some s) (h : s.2.1 = f) : doneB b s = heldB q (l.take (k + 1)) f := by
  rw [← held_next hb hs, heldStep, if_pos h]
theorem held_no (hb : b = heldB q (l.take k) f) (hs : l[k]? = some s) (h : ¬ s.2.1 = f) : b = heldB q (l.take (k + 1)) f := by
  rw [← held_next hb hs, heldStep, if_neg h]
theorem good_at (hg : goodL q l) (hs : l[k]? = some s) : goodSt (play q (l.take k)) s ∧ goodL q (l.take k) := by
  rw [drop_split hs, goodL_app] at hg
  exact ⟨hg.2.1, hg.1⟩
theorem held_cut (hg : goodL q l) (hb : b = heldB q (l.take k) f) (hs : l[k]? = some s) (hf : inF f) (h : s.2.1 = f) : s.1 = 1 → 0 ≤ s.2.2.2 ∧ s.2.2.2 ≤ b.length := by
  obtain ⟨h1, h2⟩ := good_at hg hs
  intro h3
  have := h1.2.2.2 h3
  rw [h, play_held h2 hf, ← hb] at this
  exact this
theorem sizeL_take (hs : l[k]? = some s) : sizeL (l.take k) + s.2.2.1.length ≤ sizeL l := by
  conv => rhs; rw [drop_split hs]
  rw [sizeL_app, sizeL_cons]; omega
theorem held_room (hb : b = heldB q (l.take k) f) (hs : l[k]? = some s) : b.length + s.2.2.1.length ≤ sizeQ q + sizeL l := by
  have h1 := heldB_size q (l.take k) f
  have h2 := sizeL_take hs
  rw [hb]; omega
theorem play_next {q0 : Dur} (hb : q = play q0 (l.take k)) (hs : l[k]? = some s) : stepQ q s = play q0 (l.take (k + 1)) := by
  rw [hb, play, play, List.take_add_one, hs, List.foldl_append]; rfl
theorem play_cut {q0 : Dur} (hg : goodL q0 l) (hb : q = play q0 (l.take k)) (hs : l[k]? = some s) : inF s.2.1 ∧ (s.1 = 1 → 0 ≤ s.2.2.2 ∧ s.2.2.2 ≤ (getF q s.2.1).length) := by
  obtain ⟨h1, h2⟩ := good_at hg hs
  subst hb
  exact ⟨h1.2.1, h1.2.2.2⟩
theorem play_room {q0 : Dur} (hb : q = play q0 (l.take k)) (hs : l[k]? = some s) : (getF q s.2.1).length + s.2.2.1.length ≤ sizeQ q0 + sizeL l := by
  have h1 := play_size (l.take k) q0
  have h2 := sizeL_take hs
  have h3 := getF_size q s.2.1
  subst hb; omega
end
theorem burn_ok {d : DDisk} (h : okD d) : okD (burnD d).1 := by
  obtain ⟨h1, h2, h3⟩ := h
  unfold burnD
  split
  · split
    · exact ⟨h1, h2, h3⟩
    · exact ⟨h1, by dsimp only; omega, by dsimp only; omega⟩
  · exact ⟨h1, h2, by dsimp only; omega⟩
theorem burn_w {d : DDisk} (h : okD d) : wD (burnD d).1 ≤ wD d + 1 := by
  have h3 := h.2.2
  unfold burnD
  split
  · split
    · show wD d ≤ _; omega
    · simp only [wD]; omega
  · simp only [wD]; omega
theorem burn_same (d : DDisk) : (burnD d).1.1 = d.1 ∧ (burnD d).1.2.2.2.2.2 = d.2.2.2.2.2 := by
  unfold burnD
  split
  · split <;> exact ⟨rfl, rfl⟩
  · exact ⟨rfl, rfl⟩
theorem add_ok {d : DDisk} {s : DStep} (h : okD d) (hs : goodSt (play d.2.2.2.2.2.1 d.2.2.2.2.2.2) s) : okD (addP d s) :=
  ⟨goodL_app.2 ⟨h.1, hs, trivial⟩, h.2⟩
theorem add_w (d : DDisk) (s : DStep) : wD (addP d s) = wD d + s.2.2.1.length + 1 := by
  simp only [wD, addP, sizeL_app, sizeL_cons, List.length_append, List.length_cons, List.length_nil]
  show sizeQ _ + (sizeL _ + (s.2.2.1.length + sizeL [])) + _ + _ = _
  simp only [sizeL, List.map_nil, List.sum_nil]
  omega
theorem settle_ok {d : DDisk} (k : Nat) (h : okD d) : okD (settleD d k) := by
  obtain ⟨h1, h2⟩ := h
  rw [← List.take_append_drop k d.2.2.2.2.2.2, goodL_app] at h1
  exact ⟨h1.2, h2⟩
theorem settle_w (d : DDisk) (k : Nat) : wD (settleD d k) ≤ wD d := by
  have h1 := play_size (d.2.2.2.2.2.2.take k) d.2.2.2.2.2.1
  have h2 : sizeL d.2.2.2.2.2.2 = sizeL (d.2.2.2.2.2.2.take k) + sizeL (d.2.2.2.2.2.2.drop k) := by rw [← sizeL_app, List.take_append_drop]
  simp only [wD, settleD, List.length_drop]
  omega
def writeGo : Nat → DDisk → Int → Bytes → DDisk × Int
  | 0, d, _, _ => (d, 0)
  | n + 1, d, f, b => if b.length = 0 then (d, 0) else if (burnD d).2 = true then writeGo n (addP (burnD d).1 (0, f, b.take 64, 0)) f (b.drop 64) else ((burnD d).1, 6)
def dWrite (d : DDisk) (f : Int) (b : Bytes) : DDisk × Int := if ¬ wrongD d = 0 then (d, wrongD d) else if ¬ inF f then (d, 2) else writeGo b.length d f b
section
variable {d d' : DDisk} {f : Int} {b : Bytes} {n m : Nat} {p : DDisk × Int}
theorem write_end (hp : p = writeGo n d f b) (hb : b.length = 0) : p = (d, 0) := by
  rw [hp]; cases n with
  | zero => rfl
  | succ n => exact if_pos hb
theorem write_off (hp : p = writeGo n d f b) (hn : b.length ≤ n) (hb : 0 < b.length) (h : ¬ (burnD d).2 = true) : p = ((burnD d).1, 6) := by
  rw [hp]; cases n with
  | zero => omega
  | succ n => rw [writeGo, if_neg (by omega), if_neg h]
theorem write_step (hp : p = writeGo n d f b) (hn : b.length ≤ n) (hb : 0 < b.length) (h : (burnD d).2 = true) (hm : m = min b.length 64) : p = writeGo (n - 1) (addP (burnD d).1 (0, f, b.take m, 0)) f (b.drop m) := by
  rw [hp]; cases n with
  | zero => omega
  | succ n =>
    rw [writeGo, if_neg (by omega), if_pos h]
    have h1 : b.take m = b.take 64 := by
      by_cases h0 : b.length ≤ 64
      · rw [hm, List.take_of_length_le (by omega), List.take_of_length_le h0]
      · rw [hm, Nat.min_eq_right (by omega)]
    have h2 : b.drop m = b.drop 64 := by
      by_cases h0 : b.length ≤ 64
      · rw [hm, List.drop_of_length_le (by omega), List.drop_of_length_le h0]
      · rw [hm, Nat.min_eq_right (by omega)]
    rw [h1, h2]; rfl
theorem step_ok (h : okD d) (hf : inF f) (hb : 0 < b.length) (hm : m = min b.length 64) : okD (addP (burnD d).1 (0, f, b.take m, 0)) :=
  add_ok (burn_ok h) ⟨.inl rfl, hf, fun _ => by simp only [List.length_take]; omega, fun h => by cases h⟩
theorem step_w (h : okD d) (hb : 0 < b.length) (hm : m = min b.length 64) : wD (addP (burnD d).1 (0, f, b.take m, 0)) + 3 * (b.drop m).length ≤ wD d + 3 * b.length := by
  have h1 := burn_w h
  rw [add_w]
  simp only [List.length_take, List.length_drop]
  omega
theorem writeGo_ok : ∀ (n : Nat) {d : DDisk} {b : Bytes}, okD d → inF f → okD (writeGo n d f b).1 ∧ wD (writeGo n d f b).1 ≤ wD d + 3 * b.length + 1
  | 0, d, b, h, _ => ⟨h, by show wD d ≤ _; omega⟩
  | n + 1, d, b, h, hf => by
    unfold writeGo
    split
    · exact ⟨h, by show wD d ≤ _; omega⟩
    · rename_i h0
      split
      · have e1 : b.take 64 = b.take (min b.length 64) := by
          by_cases h0 : b.length ≤ 64
          · rw [Nat.min_eq_left h0, List.take_of_length_le h0, List.take_of_length_le (Nat.le_refl _)]
          · rw [Nat.min_eq_right (by omega)]
        have h1 := step_ok (m := min b.length 64) h hf (by omega) rfl
        have h2 := step_w (f := f) (m := min b.length 64) h (by omega) rfl
        rw [← e1] at h1 h2
        obtain ⟨k1, k2⟩ := writeGo_ok n (b := b.drop 64) h1 hf
        simp only [List.length_drop] at h2 k2
        exact ⟨k1, by omega⟩
      · have := burn_w h
        exact ⟨burn_ok h, by dsimp only; omega⟩
end
theorem write_ok {d : DDisk} {f : Int} {b : Bytes} (h : okD d) : okD (dWrite d f b).1 := by
  unfold dWrite; split
  · exact h
  · split
    · exact h
    · rename_i hf; exact (writeGo_ok _ h (Decidable.not_not.1 hf)).1
theorem write_w {d : DDisk} {f : Int} {b : Bytes} (h : okD d) : wD (dWrite d f b).1 ≤ wD d + 3 * b.length + 1 := by
  unfold dWrite; split
  · show wD d ≤ _; omega
  · split
    · show wD d ≤ _; omega
    · rename_i hf; exact (writeGo_ok _ h (Decidable.not_not.1 hf)).2
def dCut (d : DDisk) (f n : Int) : DDisk × Int := if ¬ wrongD d = 0 then (d, wrongD d) else if ¬ inF f ∨ n < 0 ∨ ((heldB d.2.2.2.2.2.1 d.2.2.2.2.2.2 f).length : Int) < n then (d, 2) else
  if (burnD d).2 = true then (addP (burnD d).1 (1, f, [], n), 0) else ((burnD d).1, 6)
theorem cut_ok {d : DDisk} {f n : Int} (h : okD d) : okD (dCut d f n).1 := by
  unfold dCut; split
  · exact h
  · split
    · exact h
    · rename_i h1
      have hf : inF f := Decidable.byContradiction fun q => h1 (.inl q)
      have hn : ¬ n < 0 := fun q => h1 (.inr (.inl q))
      have hl : ¬ ((heldB d.2.2.2.2.2.1 d.2.2.2.2.2.2 f).length : Int) < n := fun q => h1 (.inr (.inr q))
      split
      · refine add_ok (burn_ok h) ⟨.inr rfl, hf, fun h => (by cases h), fun _ => ?_⟩
        rw [(burn_same d).2]
        rw [play_held h.1 hf]
        dsimp only; omega
      · exact burn_ok h
theorem cut_w {d : DDisk} {f n : Int} (h : okD d) : wD (dCut d f n).1 ≤ wD d + 2 := by
  have := burn_w h
  unfold dCut; split
  · show wD d ≤ _; omega
  · split
    · show wD d ≤ _; omega
    · split
      · rw [add_w]; simp only [List.length_nil]; omega
      · dsimp only; omega
def dSync (d : DDisk) : DDisk × Int := if ¬ wrongD d = 0 then (d, wrongD d) else if (burnD d).2 = true then (settleD (burnD d).1 (burnD d).1.2.2.2.2.2.2.length, 0) else ((burnD d).1, 6)
theorem sync_ok {d : DDisk} (h : okD d) : okD (dSync d).1 := by
  unfold dSync; split
  · exact h
  · split
    · exact settle_ok _ (burn_ok h)
    · exact burn_ok h
theorem sync_w {d : DDisk} (h : okD d) : wD (dSync d).1 ≤ wD d + 1 := by
  have h1 := burn_w h
  unfold dSync; split
  · show wD d ≤ _; omega
  · split
    · have := settle_w (burnD d).1 (burnD d).1.2.2.2.2.2.2.length
      dsimp only; omega
    · dsimp only; omega
def dRead (d : DDisk) (f : Int) : Bytes × Int := if ¬ wrongD d = 0 then ([], wrongD d) else if ¬ inF f then ([], 2) else (heldB d.2.2.2.2.2.1 d.2.2.2.2.2.2 f, 0)
theorem read_size (d : DDisk) (f : Int) : (dRead d f).1.length ≤ wD d := by
  have := heldB_size d.2.2.2.2.2.1 d.2.2.2.2.2.2 f
  unfold dRead; split
  · exact Nat.zero_le _
  · split
    · exact Nat.zero_le _
    · dsimp only [wD]; omega
def dFuse (d : DDisk) (n : Int) : DDisk × Int := if ¬ wrongD d = 0 then (d, wrongD d) else if n < 0 then (d, 2) else ((d.1, d.2.1, true, n, d.2.2.2.2), 0)
theorem fuse_ok {d : DDisk} {n : Int} (h : okD d) : okD (dFuse d n).1 := by
  unfold dFuse; split
  · exact h
  · split
    · exact h
    · exact ⟨h.1, by dsimp only; omega, h.2.2⟩
def tornQ (d : DDisk) (t : Int) : Dur := match d.2.2.2.2.2.2 with
  | [] => d.2.2.2.2.2.1
  | s :: _ => if s.1 = 0 then stepQ d.2.2.2.2.2.1 (s.1, s.2.1, s.2.2.1.take (min t ((s.2.2.1.length : Int) - 1)).toNat, s.2.2.2) else d.2.2.2.2.2.1
def dStart (d : DDisk) (k t : Int) : DDisk × Int := if d.1 = false then (d, 1) else if d.2.1 = false ∨ k < 0 ∨ t < 0 then (d, 2) else
  ((d.1, false, false, 0, d.2.2.2.2.1, tornQ (settleD d (min k d.2.2.2.2.2.2.length).toNat) t, []), 0)
theorem start_ok {d : DDisk} {k t : Int} (h : okD d) : okD (dStart d k t).1 := by
  unfold dStart; split
  · exact h
  · split
    · exact h
    · exact ⟨trivial, Int.le_refl _, h.2.2⟩
theorem len_w (d : DDisk) : d.2.2.2.2.2.2.length ≤ wD d := by unfold wD; omega
theorem write_bad1 {d : DDisk} {f : Int} {b : Bytes} (h : ¬ wrongD d = 0) : dWrite d f b = (d, wrongD d) := if_pos h
theorem write_bad2 {d : DDisk} {f : Int} {b : Bytes} (h : ¬ ¬ wrongD d = 0) (h2 : ¬ inF f) : dWrite d f b = (d, 2) := by unfold dWrite; rw [if_neg h, if_pos h2]
theorem write_go {d : DDisk} {f : Int} {b : Bytes} (h : ¬ ¬ wrongD d = 0) (h2 : ¬ ¬ inF f) : dWrite d f b = writeGo b.length d f b := by unfold dWrite; rw [if_neg h, if_neg h2]
theorem cut_bad1 {d : DDisk} {f n : Int} (h : ¬ wrongD d = 0) : dCut d f n = (d, wrongD d) := if_pos h
theorem cut_bad2 {d : DDisk} {f n : Int} (h : ¬ ¬ wrongD d = 0) (h2 : ¬ inF f ∨ n < 0 ∨ ((heldB d.2.2.2.2.2.1 d.2.2.2.2.2.2 f).length : Int) < n) : dCut d f n = (d, 2) := by unfold dCut; rw [if_neg h, if_pos h2]
theorem cut_go {d : DDisk} {f n : Int} (h : ¬ ¬ wrongD d = 0) (h1 : ¬ ¬ inF f) (h2 : ¬ n < 0) (h3 : ¬ ((heldB d.2.2.2.2.2.1 d.2.2.2.2.2.2 f).length : Int) < n) (h4 : ¬ ¬ (burnD d).2 = true) : dCut d f n = (addP (burnD d).1 (1, f, [], n), 0) := by
  unfold dCut; rw [if_neg h, if_neg (fun q => q.elim h1 fun q => q.elim h2 h3), if_pos (Decidable.not_not.1 h4)]
theorem cut_off {d : DDisk} {f n : Int} (h : ¬ ¬ wrongD d = 0) (h1 : ¬ ¬ inF f) (h2 : ¬ n < 0) (h3 : ¬ ((heldB d.2.2.2.2.2.1 d.2.2.2.2.2.2 f).length : Int) < n) (h4 : ¬ (burnD d).2 = true) : dCut d f n = ((burnD d).1, 6) := by
  unfold dCut; rw [if_neg h, if_neg (fun q => q.elim h1 fun q => q.elim h2 h3), if_neg h4]
theorem sync_bad {d : DDisk} (h : ¬ wrongD d = 0) : dSync d = (d, wrongD d) := if_pos h
theorem sync_off {d : DDisk} (h : ¬ ¬ wrongD d = 0) (h4 : ¬ (burnD d).2 = true) : dSync d = ((burnD d).1, 6) := by unfold dSync; rw [if_neg h, if_neg h4]
theorem sync_go {d : DDisk} (h : ¬ ¬ wrongD d = 0) (h4 : ¬ ¬ (burnD d).2 = true) : dSync d = (settleD (burnD d).1 (burnD d).1.2.2.2.2.2.2.length, 0) := by unfold dSync; rw [if_neg h, if_pos (Decidable.not_not.1 h4)]
abbrev DAct := Dlaw05Act
def smallA (l : List DAct) : Prop := (∀ a ∈ l, a.2.2.2.2.length ≤ 400) ∧ l.length ≤ 100
instance (l : List DAct) : Decidable (smallA l) := by unfold smallA; infer_instance
structure Fz (n : Int) (d : DDisk) : Prop where
  ok : okD d
  made : d.1 = true
  has : d.2.2.1 = true
  sum : d.2.2.2.2.1 + d.2.2.2.1 = n
  off : d.2.1 = true → d.2.2.2.1 = 0
theorem Fz.burn {n : Int} {d : DDisk} (h : Fz n d) (ho : d.2.1 = false) : Fz n (burnD d).1 ∧ ((burnD d).2 = true ↔ (burnD d).1.2.1 = false) ∧ ((burnD d).2 = true → (burnD d).1.2.1 = false) := by
  have hk := burn_ok h.ok
  obtain ⟨h1, h2, h3, h4, h5⟩ := h
  unfold burnD at hk ⊢
  rw [if_pos h3] at hk ⊢
  split
  · rename_i h0
    rw [if_pos h0] at hk
    exact ⟨⟨hk, h2, h3, h4, fun _ => h0⟩, by simp, by simp⟩
  · rename_i h0
    rw [if_neg h0] at hk
    exact ⟨⟨hk, h2, h3, by dsimp only; omega, fun q => absurd (ho.symm.trans q) (by decide)⟩, by simp [ho], fun _ => ho⟩
theorem Fz.add {n : Int} {d : DDisk} {s : DStep} (h : Fz n d) (hk : okD (addP d s)) : Fz n (addP d s) := ⟨hk, h.made, h.has, h.sum, h.off⟩
/-- What a call leaves: e the answer, d' the disk behind it. -/
structure Fs (n : Int) (d d' : DDisk) (e : Int) : Prop where
  fz : Fz n d'
  off : e = 6 ↔ d'.2.1 = true
  arg : e = 2 → d' = d
theorem Fs.wrong {n : Int} {d : DDisk} (h : Fz n d) (hw : ¬ wrongD d = 0) : Fs n d d (wrongD d) := by
  have hm : ¬ d.1 = false := by rw [h.made]; decide
  unfold wrongD at hw ⊢
  rw [if_neg hm] at hw ⊢
  by_cases ho : d.2.1 = true
  · rw [if_pos ho]; exact ⟨h, by simp [ho], fun q => by cases q⟩
  · rw [if_neg ho] at hw; exact absurd rfl hw
theorem on_of {n : Int} {d : DDisk} (h : Fz n d) (hw : wrongD d = 0) : d.2.1 = false := by
  have hm : ¬ d.1 = false := by rw [h.made]; decide
  unfold wrongD at hw
  rw [if_neg hm] at hw
  by_cases ho : d.2.1 = true
  · rw [if_pos ho] at hw; cases hw
  · simpa using ho
theorem Fs.go {m : Nat} : ∀ {n : Int} {d : DDisk} {f : Int} {b : Bytes}, Fz n d → inF f → d.2.1 = false → Fs n d (writeGo m d f b).1 (writeGo m d f b).2 := by
  induction m with
  | zero => intro n d f b h _ ho; exact ⟨h, by simp [writeGo, ho], fun _ => rfl⟩
  | succ m ih =>
    intro n d f b h hf ho
    obtain ⟨k1, k2, k3⟩ := h.burn ho
    unfold writeGo
    split
    · exact ⟨h, by simp [ho], fun _ => rfl⟩
    · rename_i h0
      split
      · rename_i hb
        have e1 : b.take 64 = b.take (min b.length 64) := by
          by_cases h0 : b.length ≤ 64
          · rw [Nat.min_eq_left h0, List.take_of_length_le h0, List.take_of_length_le (Nat.le_refl _)]
          · rw [Nat.min_eq_right (by omega)]
        have hs := step_ok (m := min b.length 64) h.ok hf (by omega) rfl
        rw [← e1] at hs
        have hq := ih (b := b.drop 64) (k1.add hs) hf (k3 hb)
        refine ⟨hq.fz, hq.off, fun q => ?_⟩
        exfalso
        have : ∀ (m : Nat) (d : DDisk) (b : Bytes), (writeGo m d f b).2 = 0 ∨ (writeGo m d f b).2 = 6 := by
          intro m
          induction m with
          | zero => intro d b; exact .inl rfl
          | succ m ih => intro d b; unfold writeGo; split
                         · exact .inl rfl
                         · split
                           · exact ih _ _
                           · exact .inr rfl
        rcases this m _ (b.drop 64) with e | e <;> rw [e] at q <;> cases q
      · rename_i hb
        refine ⟨k1, ?_, fun q => by cases q⟩
        have : (burnD d).1.2.1 = true := by
          cases hc : (burnD d).1.2.1 with
          | true => rfl
          | false => exact absurd (k2.2 hc) hb
        simp [this]
theorem Fs.cut {n : Int} {d : DDisk} {f k : Int} (h : Fz n d) : Fs n d (dCut d f k).1 (dCut d f k).2 := by
  have hk := cut_ok (f := f) (n := k) h.ok
  unfold dCut at hk ⊢
  split
  · rename_i hw; exact Fs.wrong h hw
  · rename_i hw
    have ho := on_of h (Decidable.not_not.1 hw)
    obtain ⟨k1, k2, k3⟩ := h.burn ho
    split
    · exact ⟨h, by simp [ho], fun _ => rfl⟩
    · rename_i hf
      rw [if_neg hw, if_neg hf] at hk
      split
      · rename_i hb
        rw [if_pos hb] at hk
        exact ⟨k1.add hk, by show (0 : Int) = 6 ↔ (burnD d).1.2.1 = true; simp [k3 hb], fun q => by cases q⟩
      · rename_i hb
        refine ⟨k1, ?_, fun q => by cases q⟩
        have : (burnD d).1.2.1 = true := by
          cases hc : (burnD d).1.2.1 with
          | true => rfl
          | false => exact absurd (k2.2 hc) hb
        simp [this]
/-- file by file a front part -/
def leQ (p q : Dur) : Prop := ∀ f : Int, inF f → getF p f <+: getF q f
theorem leQ.trans {p q r : Dur} (h : leQ p q) (h' : leQ q r) : leQ p r := fun f hf => (h f hf).trans (h' f hf)
def begB (b a : Bytes) : Prop := a.length ≤ b.length ∧ b.take a.length = a
instance (b a : Bytes) : Decidable (begB b a) := by unfold begB; infer_instance
abbrev DSection := Int × Int × (List DCommit)
instance decSection : DecidableEq DSection := (@instDecidableEqProd _ _ inferInstance (@instDecidableEqProd _ _ inferInstance inferInstance))
def hB1 (B : Bytes) : Bytes := B.drop (sN B 1048576)
def hB2 (B : Bytes) : Bytes := (hB1 B).drop (sN (hB1 B) 1048576)
abbrev hR1 (B : Bytes) : Int × RS := rNum B 1048576 (0, false)
abbrev DRaw := Dref05Raw
abbrev DRDisk := Dref05Disk
def stepOf (r : DRaw) : DStep := (if r.2.1 = true then 1 else 0, r.1, r.2.2.2, r.2.2.1)
def rawOf (s : DStep) : DRaw := (s.2.1, decide (s.1 = 1), s.2.2.2, s.2.2.1)
@[simp] theorem raw_step (r : DRaw) : rawOf (stepOf r) = r := by obtain ⟨f, c, t, b⟩ := r; cases c <;> rfl
theorem step_raw {s : DStep} (h : s.1 = 0 ∨ s.1 = 1) : stepOf (rawOf s) = s := by
  obtain ⟨k, f, b, t⟩ := s
  rcases h with h | h <;> (dsimp only at h; subst h; rfl)
@[simp] theorem raws_steps (l : List DRaw) : (l.map stepOf).map rawOf = l := by
  rw [List.map_map]
  conv => rhs; rw [← List.map_id l]
  congr 1; funext r; exact raw_step r
@[simp] theorem comp_rs : rawOf ∘ stepOf = id := funext raw_step
theorem steps_raws : ∀ {l : List DStep} {q : Dur}, goodL q l → (l.map rawOf).map stepOf = l
  | [], _, _ => rfl
  | s :: l, q, h => by rw [List.map_cons, List.map_cons, step_raw h.1.1, steps_raws h.2]
def fromR (r : DRDisk) : DDisk := (r.1, !r.2.2.2.1, r.2.2.2.2.1, if r.2.2.2.2.1 = true then r.2.2.2.2.2.1 else 0, r.2.2.2.2.2.2, r.2.1, r.2.2.1.map stepOf)
def toR (d : DDisk) (x : Int) : DRDisk := (d.1, d.2.2.2.2.2.1, d.2.2.2.2.2.2.map rawOf, !d.2.1, d.2.2.1, if d.2.2.1 = true then d.2.2.2.1 else x, d.2.2.2.2.1)
/-- A disk without a fuse has none left. -/
def nf (d : DDisk) : Prop := d.2.2.1 = false → d.2.2.2.1 = 0
theorem from_to {d : DDisk} {x : Int} (h : okD d) (hn : nf d) : fromR (toR d x) = d := by
  obtain ⟨m, o, f, n, c, q, l⟩ := d
  have h1 := steps_raws h.1
  unfold nf at hn
  dsimp only at h1 hn
  unfold fromR toR
  dsimp only
  rw [h1]
  cases f
  · simp [hn rfl]
  · simp
theorem nf_from (r : DRDisk) : nf (fromR r) := by
  unfold nf fromR
  dsimp only
  intro h; rw [h]; rfl
section
variable {d : DDisk}
theorem nf_fuse {n : Int} (h : nf d) : nf (dFuse d n).1 := by
  unfold dFuse; split
  · exact h
  · split
    · exact h
    · intro q; cases q
theorem nf_start {k t : Int} (h : nf d) : nf (dStart d k t).1 := by
  unfold dStart; split
  · exact h
  · split
    · exact h
    · intro _; rfl
end
section
variable {d : DDisk} {f n : Int} {b : Bytes}
theorem read_held {f : Int} (h : wrongD d = 0) (hf : inF f) : dRead d f = (heldB d.2.2.2.2.2.1 d.2.2.2.2.2.2 f, 0) := by
  unfold dRead; rw [if_neg (by rw [h]; decide), if_neg (Decidable.not_not.2 hf)]
theorem go_err : ∀ (n : Nat) {d : DDisk} {b : Bytes}, (writeGo n d f b).2 = 0 ∨ (writeGo n d f b).2 = 6
  | 0, d, b => .inl rfl
  | n + 1, d, b => by
    unfold writeGo
    split
    · exact .inl rfl
    · split
      · exact go_err n
      · exact .inr rfl
end
/-- what the files hold -/
def curD (d : DDisk) : Dur := play d.2.2.2.2.2.1 d.2.2.2.2.2.2
theorem cur_burn (d : DDisk) : curD (burnD d).1 = curD d := by unfold curD; rw [(burn_same d).2]
theorem dur_burn (d : DDisk) : (burnD d).1.2.2.2.2.2.1 = d.2.2.2.2.2.1 := by rw [(burn_same d).2]
theorem made_burn (d : DDisk) : (burnD d).1.1 = d.1 := (burn_same d).1
/-- a disk, on or off, with or without a fuse, to which there were only writes since it was synced -/
structure Pg (d : DDisk) (A S : Dur) : Prop where
  ok : okD d
  made : d.1 = true
  all : ∀ s ∈ d.2.2.2.2.2.2, s.1 = 0 ∧ inF s.2.1
  dur : d.2.2.2.2.2.1 = S
  ends : curD d = A
section
variable {d : DDisk} {A S : Dur} {f n k t : Int} {b : Bytes}
theorem Pg.right (h : Pg d A S) (ho : d.2.1 = false) : wrongD d = 0 := by unfold wrongD; rw [if_neg (by rw [h.made]; decide), if_neg (by rw [ho]; decide)]
theorem Pg.burn (h : Pg d A S) : Pg (burnD d).1 A S := ⟨burn_ok h.ok, by rw [made_burn]; exact h.made, by rw [(burn_same d).2]; exact h.all, by rw [dur_burn]; exact h.dur, by rw [cur_burn]; exact h.ends⟩
end
def Tw (d : DDisk) (r : DRDisk) : Prop := okD d ∧ fromR r = d
theorem Tw.keep {d d' : DDisk} {r : DRDisk} {x : Int} (h : Tw d r) (hk : okD d') (hn : nf d') : Tw d' (toR d' x) := ⟨hk, from_to hk hn⟩
theorem Tw.nf {d : DDisk} {r : DRDisk} (h : Tw d r) : nf d := by rw [← h.2]; exact nf_from r
section
variable {d : DDisk} {r : DRDisk} (h : Tw d r)
include h
theorem Tw.fuse {n : Int} : Tw (dFuse d n).1 (toR (dFuse (fromR r) n).1 r.2.2.2.2.2.1) ∧ (dFuse (fromR r) n).2 = (dFuse d n).2 := by rw [h.2]; exact ⟨h.keep (fuse_ok h.1) (nf_fuse h.nf), rfl⟩
theorem Tw.start {k t : Int} : Tw (dStart d k t).1 (toR (dStart (fromR r) k t).1 r.2.2.2.2.2.1) ∧ (dStart (fromR r) k t).2 = (dStart d k t).2 := by rw [h.2]; exact ⟨h.keep (start_ok h.1) (nf_start h.nf), rfl⟩
end
def smallS (s : DSection) : Prop := (∀ c ∈ s.2.2, c.2.2.length ≤ 40) ∧ s.2.2.length ≤ 40
instance (s : DSection) : Decidable (smallS s) := by unfold smallS; infer_instance
def logOk (ep n : Int) (B : Bytes) : Prop := (fRead B).2.2 = 0 ∧ (cDecode (fRead B).1).2 = 0 ∧ (cFollows ep n [(cDecode (fRead B).1).1]).1 = 0
instance (ep n : Int) (B : Bytes) : Decidable (logOk ep n B) := by unfold logOk; infer_instance
def onD (d : DDisk) : Prop := d.1 = true ∧ d.2.1 = false
instance (d : DDisk) : Decidable (onD d) := by unfold onD; infer_instance
def tornD (d : DDisk) (f n : Int) : DDisk × Int := if ((heldB d.2.2.2.2.2.1 d.2.2.2.2.2.2 f).length : Int) = n then (d, 0) else if ¬ (dCut d f n).2 = 0 then dCut d f n else dSync (dCut d f n).1
section
variable {d : DDisk} {br : Bool} {l l' : List DCommit} {c : DCommit} {q : DDisk × Int} {to n most : Int}
theorem read_err' {f : Int} (d : DDisk) (hf : inF f) : (dRead d f).2 = wrongD d := by
  by_cases h : wrongD d = 0
  · rw [read_held h hf, h]
  · unfold dRead; rw [if_pos h]
theorem wrong_rng (d : DDisk) : 0 ≤ wrongD d ∧ wrongD d ≤ 6 := by unfold wrongD; split; exact ⟨by omega, by omega⟩; split <;> exact ⟨by omega, by omega⟩
theorem write_rng (d : DDisk) (f : Int) (b : Bytes) : 0 ≤ (dWrite d f b).2 ∧ (dWrite d f b).2 ≤ 6 := by
  have h0 := wrong_rng d
  unfold dWrite; split
  · exact h0
  · split
    · exact ⟨by dsimp only; omega, by dsimp only; omega⟩
    · rcases go_err b.length (d := d) (f := f) (b := b) with h | h <;> rw [h] <;> exact ⟨by omega, by omega⟩
theorem tornD_ok {f : Int} (h : okD d) : okD (tornD d f n).1 := by
  unfold tornD; split
  · exact h
  · split
    · exact cut_ok h
    · exact sync_ok (cut_ok h)
theorem tornD_w {f : Int} (h : okD d) : wD (tornD d f n).1 ≤ wD d + 3 := by
  have h1 := cut_w (f := f) (n := n) h
  have h2 := sync_w (cut_ok (f := f) (n := n) h)
  unfold tornD; split
  · dsimp only; omega
  · split
    · omega
    · omega
end
def endR (l : List DRun) : Int := match l.getLast? with
  | some r => r.2.1
  | none => 0
def chainU : Int → List DRun → Prop
  | _, [] => True
  | e, r :: l => runCheck r = 0 ∧ r.1 = e + 1 ∧ chainU r.2.1 l
def okU (l : List DRun) : Prop := chainU 0 l
def rFrame (r : DRun) : Bytes := fEnc (runBody r)
section
variable {l : List DRun} {r x : DRun} {e : Int} {k : Nat}
theorem endR_nil (h : ¬ ¬ (l.length : Int) = 0) : endR l = 0 := by rw [List.eq_nil_of_length_eq_zero (show l.length = 0 by omega)]; rfl
theorem endR_at (hx : l[k]? = some x) (h : k + 1 = l.length) : endR l = x.2.1 := by
  unfold endR; rw [List.getLast?_eq_getElem?, show l.length - 1 = k by omega, hx]
theorem endR_snoc : endR (l ++ [r]) = r.2.1 := by unfold endR; rw [List.getLast?_append]; rfl
theorem chain_app : ∀ {l : List DRun} {e : Int}, chainU e (l ++ [r]) ↔ chainU e l ∧ runCheck r = 0 ∧ r.1 = (match l.getLast? with | some x => x.2.1 | none => e) + 1
  | [], e => by simp [chainU]
  | x :: l, e => by
    have h : (match (x :: l).getLast? with | some x => x.2.1 | none => e) = (match l.getLast? with | some y => y.2.1 | none => x.2.1) := by
      cases l with
      | nil => rfl
      | cons y l => rw [List.getLast?_cons_cons]; cases h : (y :: l).getLast? <;> simp_all
    rw [h, List.cons_append, chainU, chain_app, chainU]; exact ⟨fun h => ⟨⟨h.1, h.2.1, h.2.2.1⟩, h.2.2.2⟩, fun h => ⟨h.1.1, h.1.2.1, h.1.2.2, h.2⟩⟩
theorem okU_nil : okU [] := trivial
theorem okU_snoc (h : okU l) (hc : runCheck r = 0) (he : r.1 = endR l + 1) : okU (l ++ [r]) := chain_app.2 ⟨h, hc, he⟩
theorem okU_all : ∀ {l : List DRun} {e : Int}, chainU e l → ∀ r ∈ l, runCheck r = 0
  | [], _, _, _, h => by cases h
  | x :: l, e, h, r, hr => by
    rcases List.mem_cons.1 hr with rfl | hr
    · exact h.1
    · exact okU_all h.2.2 r hr
theorem chain_len : ∀ {l : List DRun} {e : Int}, chainU e l → e + l.length ≤ (match l.getLast? with | some x => x.2.1 | none => e)
  | [], e, _ => by simp
  | x :: l, e, h => by
    have h0 := runCheck_ok h.1
    have h1 := chain_len h.2.2
    have h2 : (match (x :: l).getLast? with | some x => x.2.1 | none => e) = (match l.getLast? with | some y => y.2.1 | none => x.2.1) := by
      cases l with
      | nil => rfl
      | cons y l => rw [List.getLast?_cons_cons]; cases h : (y :: l).getLast? <;> simp_all
    rw [h2]; have h3 := h.2.1; rw [List.length_cons]; omega
theorem okU_len (h : okU l) : (l.length : Int) ≤ endR l ∧ 0 ≤ endR l ∧ endR l ≤ 1048576 := by
  have h1 := chain_len h
  have h2 : endR l ≤ 1048576 := by
    unfold endR
    cases he : l.getLast? with
    | none => decide
    | some x => exact (runCheck_ok (okU_all h x (List.mem_of_getLast? he))).2.2.2.1
  have h3 : (l.length : Int) ≤ endR l := by have := h1; rw [Int.zero_add] at this; exact this
  exact ⟨h3, by omega, h2⟩
end
def runOkAt (e : Int) (B : Bytes) : Prop := (fRead B).2.2 = 0 ∧ (runDecode (fRead B).1).2 = 0 ∧ (runDecode (fRead B).1).1.1 = e + 1
instance (e : Int) (B : Bytes) : Decidable (runOkAt e B) := by unfold runOkAt; infer_instance
def runGo : Nat → Bytes → List DRun → Int → List DRun × Int
  | 0, _, l, a => (l, a)
  | k + 1, B, l, a => if runOkAt (endR l) (B.drop a.toNat) then runGo k B (l ++ [(runDecode (fRead (B.drop a.toNat)).1).1]) (a + (fRead (B.drop a.toNat)).2.1) else (l, a)
def runF (B : Bytes) : List DRun × Int := runGo B.length B [] 0
def runAt (B : Bytes) (l : List DRun) (a : Int) : Prop := 0 ≤ a ∧ a ≤ B.length ∧ okU l ∧ ∃ n : Nat, (B.length : Int) - a ≤ n ∧ runF B = runGo n B l a
section
variable {B : Bytes} {l : List DRun} {a e : Int}
theorem runAt_0 (B : Bytes) : runAt B [] 0 := ⟨Int.le_refl _, Int.natCast_nonneg _, okU_nil, B.length, by omega, rfl⟩
theorem runOk_pos (h : runOkAt e B) : 1 ≤ (fRead B).2.1 ∧ (fRead B).2.1 ≤ B.length := by
  have := fRead_bounds B
  exact ⟨this.2.2.2.2.1 h.1, this.2.1⟩
theorem runAt_end (h : runAt B l a) (hn : ¬ runOkAt (endR l) (B.drop a.toNat)) : runF B = (l, a) := by
  obtain ⟨_, _, _, n, _, h2⟩ := h
  rw [h2]; cases n with
  | zero => rfl
  | succ n => exact if_neg hn
theorem runAt_next (h : runAt B l a) (ho : runOkAt (endR l) (B.drop a.toNat)) : runAt B (l ++ [(runDecode (fRead (B.drop a.toNat)).1).1]) (a + (fRead (B.drop a.toNat)).2.1) := by
  obtain ⟨h0, h1, h3, n, hn, h2⟩ := h
  have hp := runOk_pos ho
  rw [List.length_drop] at hp
  refine ⟨by omega, by omega, okU_snoc h3 (runDec_zero ho.2.1) ho.2.2, n - 1, by omega, ?_⟩
  rw [h2]; cases n with
  | zero => omega
  | succ n => exact if_pos ho
theorem runOk_of (he : e = endR l) (h1 : ¬ ¬ (fRead B).2.2 = 0) (h2 : ¬ ¬ (runDecode (fRead B).1).2 = 0) (h3 : ¬ ¬ (runDecode (fRead B).1).1.1 = e + 1) : runOkAt (endR l) B := ⟨Decidable.not_not.1 h1, Decidable.not_not.1 h2, by rw [← he]; exact Decidable.not_not.1 h3⟩
theorem runNo_1 (h : ¬ (fRead B).2.2 = 0) : ¬ runOkAt (endR l) B := fun q => h q.1
theorem runNo_2 (h : ¬ (runDecode (fRead B).1).2 = 0) : ¬ runOkAt (endR l) B := fun q => h q.2.1
theorem runNo_3 (he : e = endR l) (h : ¬ (runDecode (fRead B).1).1.1 = e + 1) : ¬ runOkAt (endR l) B := fun q => h (by rw [he]; exact q.2.2)
theorem runGo_spec : ∀ {k : Nat} {l : List DRun} {a : Int}, okU l → 0 ≤ a → a ≤ B.length → okU (runGo k B l a).1 ∧ 0 ≤ (runGo k B l a).2 ∧ (runGo k B l a).2 ≤ B.length
  | 0, l, a, h, h0, h1 => ⟨h, h0, h1⟩
  | k + 1, l, a, h, h0, h1 => by
    unfold runGo; split
    · rename_i ho
      have hp := runOk_pos ho
      rw [List.length_drop] at hp
      exact runGo_spec (okU_snoc h (runDec_zero ho.2.1) ho.2.2) (by omega) (by omega)
    · exact ⟨h, h0, h1⟩
theorem runF_ok (B : Bytes) : okU (runF B).1 ∧ 0 ≤ (runF B).2 ∧ (runF B).2 ≤ B.length := runGo_spec okU_nil (Int.le_refl _) (by omega)
theorem runF_bounds (B : Bytes) : 0 ≤ (runF B).2 ∧ (runF B).2 ≤ B.length ∧ (runF B).1.length ≤ 1048576 := by
  have h := runF_ok B; have h2 := okU_len h.1
  exact ⟨h.2.1, h.2.2, by omega⟩
end
def uOpen (d : DDisk) : DDisk × Int := if ¬ wrongD d = 0 then (d, wrongD d) else tornD d 2 (runF (dRead d 2).1).2
abbrev USt := DDisk × Bool × List DRun
def uFlush (d : DDisk) (br : Bool) (l : List DRun) (x : DRun) : USt × Int :=
  if br = true ∨ ¬ onD d then ((d, true, l), 6) else if ¬ runCheck x = 0 then ((d, br, l), runCheck x) else if ¬ x.1 = endR l + 1 then ((d, br, l), 15)
  else if ¬ (dWrite d 2 (rFrame x)).2 = 0 then (((dWrite d 2 (rFrame x)).1, true, l), (dWrite d 2 (rFrame x)).2)
  else if ¬ (dSync (dWrite d 2 (rFrame x)).1).2 = 0 then (((dSync (dWrite d 2 (rFrame x)).1).1, true, l), (dSync (dWrite d 2 (rFrame x)).1).2)
  else (((dSync (dWrite d 2 (rFrame x)).1).1, br, l ++ [x]), 0)
section
variable {d : DDisk} {br : Bool} {l : List DRun} {x : DRun}
theorem flush_off (h : br = true ∨ ¬ onD d) : uFlush d br l x = ((d, true, l), 6) := if_pos h
theorem flush_enc (h : ¬ (br = true ∨ ¬ onD d)) (h2 : ¬ (runEncode x).2 = 0) : uFlush d br l x = ((d, br, l), (runEncode x).2) := by
  have e : (runEncode x).2 = runCheck x := by unfold runEncode; split <;> (rename_i q; first | exact q.symm | rfl)
  rw [e] at h2 ⊢; unfold uFlush; rw [if_neg h, if_pos h2]
theorem enc_zero (h2 : ¬ ¬ (runEncode x).2 = 0) : runCheck x = 0 ∧ runEncode x = (runBody x, 0) := by
  have e : (runEncode x).2 = runCheck x := by unfold runEncode; split <;> (rename_i q; first | exact q.symm | rfl)
  rw [e] at h2
  exact ⟨Decidable.not_not.1 h2, runEnc_good h2⟩
theorem flush_order (h : ¬ (br = true ∨ ¬ onD d)) (h2 : ¬ ¬ (runEncode x).2 = 0) (h3 : ¬ x.1 = endR l + 1) : uFlush d br l x = ((d, br, l), 15) := by
  unfold uFlush; rw [if_neg h, if_neg (Decidable.not_not.2 (enc_zero h2).1), if_pos h3]
theorem enc_frame (h2 : ¬ ¬ (runEncode x).2 = 0) : fAppend [] (runEncode x).1 = (rFrame x, 0) := by
  have h := enc_zero h2
  have := runBody_len h.1
  rw [h.2, fAppend_good (by dsimp only; omega)]; rfl
theorem rFrame_len (h : runCheck x = 0) : (rFrame x).length ≤ 61510 ∧ 1 ≤ (rFrame x).length := by
  have := runBody_len h
  have h2 := fEnc_len (r := runBody x) (by omega)
  exact ⟨by unfold rFrame; omega, fEnc_pos _⟩
theorem enc_flen (h2 : ¬ ¬ (runEncode x).2 = 0) : (fAppend [] (runEncode x).1).1.length ≤ 61510 := by rw [enc_frame h2]; exact (rFrame_len (enc_zero h2).1).1
theorem flush_write (h : ¬ (br = true ∨ ¬ onD d)) (h2 : ¬ ¬ (runEncode x).2 = 0) (h3 : ¬ ¬ x.1 = endR l + 1) (h4 : ¬ (dWrite d 2 (fAppend [] (runEncode x).1).1).2 = 0) :
    uFlush d br l x = (((dWrite d 2 (fAppend [] (runEncode x).1).1).1, true, l), (dWrite d 2 (fAppend [] (runEncode x).1).1).2) := by
  rw [enc_frame h2] at h4 ⊢; unfold uFlush; rw [if_neg h, if_neg (Decidable.not_not.2 (enc_zero h2).1), if_neg h3, if_pos h4]
theorem flush_sync (h : ¬ (br = true ∨ ¬ onD d)) (h2 : ¬ ¬ (runEncode x).2 = 0) (h3 : ¬ ¬ x.1 = endR l + 1) (h4 : (dWrite d 2 (fAppend [] (runEncode x).1).1).2 = 0) (h5 : ¬ (dSync (dWrite d 2 (fAppend [] (runEncode x).1).1).1).2 = 0) :
    uFlush d br l x = (((dSync (dWrite d 2 (fAppend [] (runEncode x).1).1).1).1, true, l), (dSync (dWrite d 2 (fAppend [] (runEncode x).1).1).1).2) := by
  rw [enc_frame h2] at h4 h5 ⊢; unfold uFlush; rw [if_neg h, if_neg (Decidable.not_not.2 (enc_zero h2).1), if_neg h3, if_neg (Decidable.not_not.2 h4), if_pos h5]
theorem flush_good (h : ¬ (br = true ∨ ¬ onD d)) (h2 : ¬ ¬ (runEncode x).2 = 0) (h3 : ¬ ¬ x.1 = endR l + 1) (h4 : (dWrite d 2 (fAppend [] (runEncode x).1).1).2 = 0) (h5 : ¬ ¬ (dSync (dWrite d 2 (fAppend [] (runEncode x).1).1).1).2 = 0) :
    uFlush d br l x = (((dSync (dWrite d 2 (fAppend [] (runEncode x).1).1).1).1, br, l ++ [x]), 0) := by
  rw [enc_frame h2] at h4 h5 ⊢; unfold uFlush; rw [if_neg h, if_neg (Decidable.not_not.2 (enc_zero h2).1), if_neg h3, if_neg (Decidable.not_not.2 h4), if_neg h5]
theorem flush_okU (h : okU l) : okU (uFlush d br l x).1.2.2 := by
  unfold uFlush; split
  · exact h
  · split
    · exact h
    · split
      · exact h
      · split
        · exact h
        · split
          · exact h
          · rename_i h2 h3 _ _; exact okU_snoc h (Decidable.not_not.1 h2) (Decidable.not_not.1 h3)
theorem flush_ok (h : okD d) : okD (uFlush d br l x).1.1 := by
  unfold uFlush; split
  · exact h
  · split
    · exact h
    · split
      · exact h
      · split
        · exact write_ok h
        · split <;> exact sync_ok (write_ok h)
theorem flush_w (h : okD d) : wD (uFlush d br l x).1.1 ≤ wD d + 184600 := by
  unfold uFlush; split
  · dsimp only; omega
  · split
    · dsimp only; omega
    · rename_i h0; split
      · dsimp only; omega
      · have h1 := write_w (f := 2) (b := rFrame x) h
        have h2 := (rFrame_len (Decidable.not_not.1 h0)).1
        have h3 := sync_w (write_ok (f := 2) (b := rFrame x) h)
        split
        · dsimp only; omega
        · split <;> (dsimp only; omega)
theorem uopen_ok (h : okD d) : okD (uOpen d).1 := by unfold uOpen; split; exact h; exact tornD_ok h
theorem uopen_w (h : okD d) : wD (uOpen d).1 ≤ wD d + 3 := by unfold uOpen; split; (dsimp only; omega); exact tornD_w h
theorem uopen_bad (h : ¬ (dRead d 2).2 = 0) : uOpen d = (d, (dRead d 2).2) := by rw [read_err' d (by decide)] at h ⊢; exact if_pos h
theorem uopen_read (h : ¬ ¬ (dRead d 2).2 = 0) : wrongD d = 0 ∧ dRead d 2 = (heldB d.2.2.2.2.2.1 d.2.2.2.2.2.2 2, 0) := by
  rw [read_err' d (by decide)] at h
  have h0 := Decidable.not_not.1 h
  exact ⟨h0, read_held h0 (by decide)⟩
theorem uopen_go (h : ¬ ¬ (dRead d 2).2 = 0) : uOpen d = tornD d 2 (runF (dRead d 2).1).2 := by unfold uOpen; rw [if_neg (Decidable.not_not.2 (uopen_read h).1)]
theorem uopen_is (h : ¬ ¬ (dRead d 2).2 = 0) : heldB d.2.2.2.2.2.1 d.2.2.2.2.2.2 2 = (dRead d 2).1 := by rw [(uopen_read h).2]
theorem uopen_whole (h : ¬ ¬ (dRead d 2).2 = 0) (h2 : ¬ (runF (dRead d 2).1).2 < ((dRead d 2).1.length : Int)) : uOpen d = (d, 0) := by
  have h3 := (runF_bounds (dRead d 2).1).2.1
  rw [uopen_go h]; unfold tornD; rw [uopen_is h, if_pos (by omega)]
theorem uopen_cutbad (h : ¬ ¬ (dRead d 2).2 = 0) (h2 : (runF (dRead d 2).1).2 < ((dRead d 2).1.length : Int)) (h3 : ¬ (dCut d 2 (runF (dRead d 2).1).2).2 = 0) : uOpen d = dCut d 2 (runF (dRead d 2).1).2 := by
  rw [uopen_go h]; unfold tornD; rw [uopen_is h, if_neg (by omega), if_pos h3]
theorem uopen_sync (h : ¬ ¬ (dRead d 2).2 = 0) (h2 : (runF (dRead d 2).1).2 < ((dRead d 2).1.length : Int)) (h3 : ¬ ¬ (dCut d 2 (runF (dRead d 2).1).2).2 = 0) : uOpen d = dSync (dCut d 2 (runF (dRead d 2).1).2).1 := by
  rw [uopen_go h]; unfold tornD; rw [uopen_is h, if_neg (by omega), if_neg h3]
end
theorem fnOk19 : fnOk Try.prog 19 = true := by kernel_rfl
theorem fnOk75 : fnOk Try.prog 75 = true := by kernel_rfl
theorem tsl47 : tsl Try.prog 47 = some (32, 3, 40) := by kernel_rfl
theorem fin0_uScan_ok {P : Prop} (h : P := by first | exact congrArg Prod.fst (runAt_end hl (runNo_1 (by assumption))) | exact (congrArg Prod.fst (runAt_end hl (runNo_1 (by assumption)))).symm | (rw [runAt_end hl (runNo_1 (by assumption))]; done) | exact congrArg Prod.fst (runAt_end hl (runNo_2 (by assumption))) | exact (congrArg Prod.fst (runAt_end hl (runNo_2 (by assumption)))).symm | (rw [runAt_end hl (runNo_2 (by assumption))]; done) | exact congrArg Prod.fst (runAt_end hl (runNo_3 hen (by assumption))) | exact (congrArg Prod.fst (runAt_end hl (runNo_3 hen (by assumption)))).symm | (rw [runAt_end hl (runNo_3 hen (by assumption))]; done)) : P := h
set_option maxHeartbeats 4000000 in
theorem uScan_ok (W : World) {v0 : Value} {d0 : List UInt8} (h0 : Rd (.sl .byte) (wm W) [v0] d0) (e0 : d0.length ≤ 140737488355000) : CallR Try.prog 39 [v0] W (mnil) (fun v m' => ∃ (s0 : Value), v = .tuple #[s0, .int .i64 ((runF d0).2)] ∧ Ow (.sl TRun) m' [s0] ((runF d0).1)) := by
  obtain ⟨A0, c0, rfl, l0, k0⟩ := h0.slice
  simp only [maxLen] at k0
  refine CallR.ofA (n := 46) Try.func39 rfl rfl rfl ?_
  refine VC.rs ?_
  refine VO.as ?_
  refine VO.as ?_
  refine VO.k3 0 2 3 ?_
  refine VC.rs ?_
  refine VO.as ?_
  refine VO.k4 0 2 3 4 ?_
  refine VC.rs ?_
  refine VO.as ?_
  refine VO.as ?_
  refine VO.kp [0] [(0, wm W)] ?_
  refine VO.k6 0 2 3 4 5 6 ?_
  refine VC.seq ?_
  refine VC.block ?_
  refine VC.inv ((101, mnil) :: _) (fun _ h => h.nilc 101) ?_
  refine VC.loop (G := (List DRun) × (Option Addr) × Nat × Mem × Int × Int) (fun g => [(4, Value.slice (g.2.1) ((g.1).length) ((g.2.2.1))), (5, Value.int .i64 ((g.2.2.2.2.2))), (6, Value.int .i64 ((g.2.2.2.2.1))), (0, Value.slice A0 (d0.length) (c0)), (2, Value.slice none (0) (0)), (3, Value.int .i64 (0))]) (fun g => [(101, (g.2.2.2.1)), (0, wm W)]) (fun g => (runAt d0 (g.1) (g.2.2.2.2.1)) ∧ ((g.2.2.2.2.2) = endR (g.1)) ∧ (Ow (.sl TRun) (g.2.2.2.1) [.slice (g.2.1) (g.1).length (g.2.2.1)] (g.1))) (fun g => ((d0.length : Int) - (g.2.2.2.2.1)).toNat) ([], none, 0, mnil, 0, 0) (⟨by exact runAt_0 d0, by rfl, (Ow.nil TRun mnil)⟩) ⟨⟨rfl, rfl, rfl, rfl, rfl, rfl, trivial⟩, fun _ h => h.sub [101, 0]⟩ ?_
  rintro ⟨l, l_A, l_c, l_m, at_, en⟩ ⟨hl, hen, h_l⟩
  replace hl : runAt d0 l at_ := hl
  replace hen : en = endR l := hen
  replace h_l : Ow (.sl TRun) l_m [.slice l_A l.length l_c] l := h_l
  show VC _ _ _ _ _ [(4, Value.slice l_A (l.length) (l_c)), (5, Value.int .i64 (en)), (6, Value.int .i64 (at_)), (0, Value.slice A0 (d0.length) (c0)), (2, Value.slice none (0) (0)), (3, Value.int .i64 (0))] [(101, l_m), (0, wm W)]
  have l_l : l.length ≤ l_c := by obtain ⟨_, _, he, hl, _⟩ := h_l.slice; simp only [Value.slice.injEq] at he; omega
  have k_l : l_c ≤ 9223372036854775807 := by obtain ⟨_, _, he, _, hl⟩ := h_l.slice; simp only [Value.slice.injEq, maxLen] at he hl; omega
  have hat0 := hl.1; have hat1 := hl.2.1
  have hrb := fRead_bounds (d0.drop at_.toNat)
  have hll := okU_len hl.2.2.1
  have hen2 := hen
  refine VC.block ?_
  refine VC.rs ?_
  refine VO.mv ?_
  refine VO.mv ?_
  obtain ⟨A2, hA2, hs2⟩ := h0.drop 1 ((at_).toNat) rfl bd
  refine VO.y rfl (.slLI ((at_).toNat) A2 rfl rfl tsl38 bd hA2 bd) ?_
  refine VO.callN 103 rfl fnOk75 rfl (fun W hW => fRead_ok W (Rd.mono hs2 (hW.at (i := 0) rfl))) (fun v3 m3 hv3 => ?_)
  obtain ⟨s3_0, rfl, f3_0⟩ := hv3
  have hfa4 := fRead_bounds (d0.drop ((at_).toNat))
  obtain ⟨A3_0, c3_0, eq3_0, l3_0, k3_0⟩ := f3_0.slice
  subst eq3_0
  simp only [maxLen] at k3_0
  refine VO.mv ?_
  refine VO.y rfl (.ext rfl rfl) ?_
  refine VO.y rfl (.ext rfl rfl) ?_
  refine VO.y rfl (.ext rfl rfl) ?_
  refine VO.as ?_
  refine VO.as ?_
  refine VO.as ?_
  refine VO.k9 0 2 3 4 5 6 7 8 9 ?_
  refine VC.seq ?_
  refine VC.rs ?_
  refine VO.mv ?_
  refine VO.y rfl (.neq rfl rfl) ?_
  refine VO.k10 0 2 3 4 5 6 7 8 9 20 ?_
  refine VC.cond rfl (fun hc5 => ?_) (fun hc5 => ?_)
  · -- T
    refine VC.exit ?_
    refine outE ?_
    refine outBE rfl ?_
    refine outE ?_
    refine outBB ?_
    refine outN ?_
    refine VC.rs ?_
    refine VO.mv ?_
    refine VO.mv ?_
    refine VO.as ?_
    refine VO.as ?_
    refine VO.kp [103, 101, 0] [(103, m3), (101, l_m), (0, wm W)] ?_
    refine VO.k10 0 2 3 4 5 6 7 8 9 20 ?_
    refine VC.ret ?_
    refine ⟨_, _, res_run (rs := [.tmp 2, .tmp 3]) rfl (.tmp rfl (.tmp rfl .nil)), fun W_ hI => out_of (l := [l_m]) hI [101] rfl rfl (mle_refl _) (fun hS_ => ?_)⟩
    dsimp only [packV]
    have he0 : ((runF d0).1 : Ty.Den (.sl TRun)) = l := by first | rfl | (exact fin0_uScan_ok)
    refine ⟨Value.slice l_A (l.length) (l_c), ?_, ?_⟩
    rotate_left
    · rw [he0]; exact (Ow.up h_l (hS_.1 _ (.head _)))
    all_goals (first | rfl | (exact fin0_uScan_ok))
  · -- F
    refine VC.skip ?_
    refine outN ?_
    refine VC.rs ?_
    refine VO.mv ?_
    refine VO.callN 106 rfl fnOk19 rfl (fun W hW => runDecode_ok W (OwnL.rd (Ow.ownl f3_0 rfl mnil) (hW.at (i := 103) rfl) (mle_nil _))) (fun v6 m6 hv6 => ?_)
    obtain ⟨s6_0, rfl, f6_0⟩ := hv6
    have hfa7 := runDecode_fits ((fRead (d0.drop ((at_).toNat))).1)
    obtain ⟨q6_0_A2, q6_0_c2, q6_0_n2, rfl, q6_0_S, q6_0_0, q6_0_1, q6_0_2⟩ := openO_Run (x0 := ((runDecode ((fRead (d0.drop ((at_).toNat))).1)).1).1) (x1 := ((runDecode ((fRead (d0.drop ((at_).toNat))).1)).1).2.1) (x2 := ((runDecode ((fRead (d0.drop ((at_).toNat))).1)).1).2.2) f6_0
    simp only [inK] at q6_0_0
    simp only [inK] at q6_0_1
    have q6_0_r2 := q6_0_2.rm
    refine VO.inv _ (fun _ h => h.parts (i := 106) rfl q6_0_S [108]) ?_
    refine VO.mv ?_
    refine VO.y rfl (.ext rfl rfl) ?_
    refine VO.y rfl (.ext rfl rfl) ?_
    refine VO.alloc 110 rfl tz32 (fun g9 => ?_)
    refine VO.store (k := 3) (c' := [Value.int .i64 (((runDecode ((fRead (d0.drop ((at_).toNat))).1)).1).1), Value.int .i64 (((runDecode ((fRead (d0.drop ((at_).toNat))).1)).1).2.1), Value.slice q6_0_A2 ((((runDecode ((fRead (d0.drop ((at_).toNat))).1)).1).2.2).length) (q6_0_c2)]) 110 rfl rfl (.inl tk32) rfl rfl rfl rfl rfl ?_
    refine VO.as ?_
    refine VO.kp [110, 108, 103, 101, 0] [(110, mone g9 (.cells [Value.int .i64 (((runDecode ((fRead (d0.drop ((at_).toNat))).1)).1).1), Value.int .i64 (((runDecode ((fRead (d0.drop ((at_).toNat))).1)).1).2.1), Value.slice q6_0_A2 ((((runDecode ((fRead (d0.drop ((at_).toNat))).1)).1).2.2).length) (q6_0_c2)].toArray 32 (0, 0))), (108, q6_0_n2), (103, m3), (101, l_m), (0, wm W)] ?_
    refine VO.k11 0 2 3 4 5 6 7 8 9 10 20 ?_
    refine VC.seq ?_
    refine VC.rs ?_
    refine VO.mv ?_
    refine VO.y rfl (.neq rfl rfl) ?_
    refine VO.mv ?_
    refine VO.dec (t := 28) rfl (fun hc11 => ?_) (fun hc11 => ?_)
    · -- FT
      refine VO.gN ?_
      refine VO.gN ?_
      refine VO.gN ?_
      refine VO.gN ?_
      refine VO.gN ?_
      refine VO.y rfl (.pT rfl rfl) ?_
      refine VO.k12 0 2 3 4 5 6 7 8 9 10 20 34 ?_
      refine VC.condT rfl ?_
      refine VC.exit ?_
      refine outE ?_
      refine outBE rfl ?_
      refine outE ?_
      refine outBB ?_
      refine outN ?_
      refine VC.rs ?_
      refine VO.mv ?_
      refine VO.mv ?_
      refine VO.as ?_
      refine VO.as ?_
      refine VO.k12 0 2 3 4 5 6 7 8 9 10 20 34 ?_
      refine VC.ret ?_
      refine ⟨_, _, res_run (rs := [.tmp 2, .tmp 3]) rfl (.tmp rfl (.tmp rfl .nil)), fun W_ hI => out_of (l := [l_m]) hI [101] rfl rfl (mle_refl _) (fun hS_ => ?_)⟩
      dsimp only [packV]
      have he0 : ((runF d0).1 : Ty.Den (.sl TRun)) = l := by first | rfl | (exact fin0_uScan_ok)
      refine ⟨Value.slice l_A (l.length) (l_c), ?_, ?_⟩
      rotate_left
      · rw [he0]; exact (Ow.up h_l (hS_.1 _ (.head _)))
      all_goals (first | rfl | (exact fin0_uScan_ok))
    · -- FF
      refine VO.gy rfl ⟨_, rfl, rfl⟩ (.fa rfl tst32 rfl) ?_
      refine VO.gy rfl ⟨_, rfl, rfl⟩ (.ld1 110 rfl tk3 rfl (cellsAt_one rfl rfl)) ?_
      refine VO.gy rfl ⟨_, rfl, rfl⟩ (.mv rfl) ?_
      refine VO.gy rfl ⟨_, rfl, rfl⟩ (.add rfl rfl rfl ⟨bd, bd⟩) ?_
      refine VO.gy rfl ⟨_, rfl, rfl⟩ (.neq rfl rfl) ?_
      refine VO.y rfl (.pF rfl rfl) ?_
      refine VO.k12 0 2 3 4 5 6 7 8 9 10 20 34 ?_
      refine VC.cond rfl (fun hc12 => ?_) (fun hc12 => ?_)
      · -- FFT
        refine VC.exit ?_
        refine outE ?_
        refine outBE rfl ?_
        refine outE ?_
        refine outBB ?_
        refine outN ?_
        refine VC.rs ?_
        refine VO.mv ?_
        refine VO.mv ?_
        refine VO.as ?_
        refine VO.as ?_
        refine VO.k12 0 2 3 4 5 6 7 8 9 10 20 34 ?_
        refine VC.ret ?_
        refine ⟨_, _, res_run (rs := [.tmp 2, .tmp 3]) rfl (.tmp rfl (.tmp rfl .nil)), fun W_ hI => out_of (l := [l_m]) hI [101] rfl rfl (mle_refl _) (fun hS_ => ?_)⟩
        dsimp only [packV]
        have he0 : ((runF d0).1 : Ty.Den (.sl TRun)) = l := by first | rfl | (exact fin0_uScan_ok)
        refine ⟨Value.slice l_A (l.length) (l_c), ?_, ?_⟩
        rotate_left
        · rw [he0]; exact (Ow.up h_l (hS_.1 _ (.head _)))
        all_goals (first | rfl | (exact fin0_uScan_ok))
      · -- FFF
        refine VC.skip ?_
        refine outN ?_
        refine VC.regD _ 11 [(0, true), (1, true), (4, true), (5, true), (6, true), (7, true), (8, true), (2, false), (3, false), (9, true), (10, true)] follows (by kernel_rfl) (fun _ h => h.sub [110, 103, 0]) ?_
        refine VD.y rfl rfl (.inl rfl) (.mv rfl) ?_
        refine VD.y rfl rfl (.inl rfl) (.ldA 110 rfl tk32 rfl (cellsAt_one rfl rfl)) ?_
        refine VD.y rfl rfl (.inl rfl) (.fa rfl tst32 rfl) ?_
        refine VD.y rfl rfl (.inl rfl) (.ld1 110 rfl tk3 rfl (cellsAt_one rfl rfl)) ?_
        refine VD.y rfl rfl (.inl rfl) (.mv rfl) ?_
        refine VD.y rfl rfl (.inl rfl) (.mv rfl) ?_
        refine VD.y rfl rfl (.inl rfl) (.add rfl rfl rfl ⟨bd, bd⟩) ?_
        refine VD.bsl (cs := [Value.int .i64 (((runDecode ((fRead (d0.drop ((at_).toNat))).1)).1).1), Value.int .i64 (((runDecode ((fRead (d0.drop ((at_).toNat))).1)).1).2.1), Value.slice q6_0_A2 ((((runDecode ((fRead (d0.drop ((at_).toNat))).1)).1).2.2).length) (q6_0_c2)]) 114 rfl rfl rfl tsl47 tz32 rfl rfl (fun _ h => h.sub [110, 103, 0]) (fun g13 => ?_)
        refine VD.appO (e := TRun) 101 108 114 rfl rfl rfl rfl tsl47 tz32 rfl rfl rfl rfl h_l (show Ow TRun _ _ ((runDecode ((fRead (d0.drop ((at_).toNat))).1)).1) from (mkO_Run (((runDecode ((fRead (d0.drop ((at_).toNat))).1)).1).1) (((runDecode ((fRead (d0.drop ((at_).toNat))).1)).1).2.1) (((runDecode ((fRead (d0.drop ((at_).toNat))).1)).1).2.2) (Seps.one (mle_refl _)) bdk bdk (OwnL.ow (Ow.ownl q6_0_2 rfl mnil) rfl))) Try.underlying47 (cellsAt_one rfl rfl) bdm bd (by decide) (fun _ _ h => h.sub [110, 103, 0]) (fun v15 m15 ho15 => ?_)
        obtain ⟨A15, c15, rfl, l15, k15⟩ := ho15.slice
        simp only [maxLen] at k15
        refine VD.y rfl rfl (.inl rfl) (.as rfl) ?_
        refine VD.y rfl rfl (.inl rfl) (.as rfl) ?_
        refine VD.nil rfl ?_ rfl
        refine VO.as ?_
        refine VO.k12 0 2 3 4 5 6 7 8 9 10 20 34 ?_
        refine outBN ?_
        exact outN ⟨⟨l ++ [((runDecode ((fRead (d0.drop ((at_).toNat))).1)).1)], A15, c15, m15, at_ + ((fRead (d0.drop ((at_).toNat))).2.1), ((runDecode ((fRead (d0.drop ((at_).toNat))).1)).1).2.1⟩, ⟨by exact runAt_next hl (runOk_of hen (by assumption) (by assumption) (by assumption)), by exact endR_snoc.symm, ho15⟩, by (have h_ := runOk_pos (runOk_of hen (by assumption) (by assumption) (by assumption)); simp only [List.length_drop] at *; omega), ⟨⟨rfl, rfl, rfl, rfl, rfl, rfl, trivial⟩, fun _ h => Inv.sub h [101, 0]⟩⟩
theorem fnOk69 : fnOk Try.prog 69 = true := by kernel_rfl
theorem tst107 : tst Try.prog 107 = some [(0, 1), (1, 1), (2, 1), (3, 1)] := by kernel_rfl
theorem tst62 : tst Try.prog 62 = some [(0, 1), (1, 1), (2, 1), (3, 1), (4, 1), (5, 4), (9, 1)] := by kernel_rfl
theorem tz62 : tz Try.prog 62 = some [.bool false, .bool false, .bool false, .int .i64 0, .int .i64 0, .slice none 0 0, .slice none 0 0, .slice none 0 0, .slice none 0 0, .slice none 0 0] := by kernel_rfl
theorem dNew_ok (W : World) : CallR Try.prog 10 [] W (mnil) (fun v m' => ∃ (s0 : Nat), v = .pointer (some ⟨s0, 0, none⟩) ∧ Ow (.ptr TdiskDisk) m' [.pointer (some ⟨s0, 0, none⟩)] (s0, newD)) := by
  refine CallR.ofA (n := 3) Try.func10 rfl rfl rfl ?_
  refine VC.rs ?_
  refine VO.as ?_
  refine VO.k1 0 ?_
  refine VC.rs ?_
  refine VO.y rfl (.bst (cs := [Value.bool true, Value.bool false, Value.bool false, Value.int .i64 (0), Value.int .i64 (0), Value.slice none (0) (0), Value.slice none (0) (0), Value.slice none (0) (0), Value.slice none (0) (0), Value.slice none (0) (0)]) rfl tst62 tz62 rfl) ?_
  refine VO.box (cs := [Value.bool true, Value.bool false, Value.bool false, Value.int .i64 (0), Value.int .i64 (0), Value.slice none (0) (0), Value.slice none (0) (0), Value.slice none (0) (0), Value.slice none (0) (0), Value.slice none (0) (0)]) 102 rfl rfl rfl (fun g1 => ?_)
  refine VO.as ?_
  refine VO.k1 0 ?_
  refine VC.ret ?_
  refine ⟨_, _, res_run (rs := [.tmp 0]) rfl (.tmp rfl .nil), fun W_ hI => out_of (l := [mone g1 (.cells [Value.bool true, Value.bool false, Value.bool false, Value.int .i64 (0), Value.int .i64 (0), Value.slice none (0) (0), Value.slice none (0) (0), Value.slice none (0) (0), Value.slice none (0) (0), Value.slice none (0) (0)].toArray 62 (0, 0))]) hI [102] rfl rfl (mle_refl _) (fun hS_ => ?_)⟩
  dsimp only [packV]
  have he0 : (newD : DdiskDisk) = (true, false, false, 0, 0, ([], [], [], []), []) := by first | rfl | (simp [*]; done)
  refine ⟨g1, ?_, ?_⟩
  rotate_left
  · rw [he0]; exact (mkP_diskDisk true false false 0 0 [] [] [] [] [] (Seps.nilAt 5 (Seps.nilAt 4 (Seps.nilAt 3 (Seps.nilAt 2 (Seps.nilAt 1 hS_))))) bdk bdk (Ow.nil _ _) (Ow.nil _ _) (Ow.nil _ _) (Ow.nil _ _) (Ow.nil _ _))
  all_goals (first | rfl | (simp [*]; done))
theorem dIs_ok (W : World) (d0 : Int) (h0 : inK .i64 d0) : CallR Try.prog 73 [.int .i64 d0] W (mnil) (fun v m' => v = .bool (decide (inF d0))) := by
  have h0' := h0; simp only [inK] at h0'
  refine CallR.ofA (n := 9) Try.func73 rfl rfl rfl ?_
  refine VC.rs ?_
  refine VO.as ?_
  refine VO.k2 0 2 ?_
  refine VC.rs ?_
  refine VO.mv ?_
  refine VO.y rfl (.geq rfl rfl) ?_
  refine VO.mv ?_
  refine VO.dec (t := 5) rfl (fun hc1 => ?_) (fun hc1 => ?_)
  · -- T
    refine VO.gy rfl ⟨_, rfl, rfl⟩ (.mv rfl) ?_
    refine VO.gy rfl ⟨_, rfl, rfl⟩ (.lss rfl rfl) ?_
    refine VO.y rfl (.pT rfl rfl) ?_
    refine VO.as ?_
    refine VO.k2 0 2 ?_
    refine VC.ret ?_
    refine ⟨_, _, res_run (rs := [.tmp 2]) rfl (.tmp rfl .nil), fun W_ hI => out_of (l := []) hI [] rfl rfl (mle_refl _) (fun hS_ => ?_)⟩
    dsimp only [packV]
    all_goals (first | rfl | (simp [inF, *]))
  · -- F
    refine VO.gN ?_
    refine VO.gN ?_
    refine VO.y rfl (.pF rfl rfl) ?_
    refine VO.as ?_
    refine VO.k2 0 2 ?_
    refine VC.ret ?_
    refine ⟨_, _, res_run (rs := [.tmp 2]) rfl (.tmp rfl .nil), fun W_ hI => out_of (l := []) hI [] rfl rfl (mle_refl _) (fun hS_ => ?_)⟩
    dsimp only [packV]
    all_goals (first | rfl | (simp [inF, *]))
theorem dNone_ok (W : World) {m0 : Mem} (hm : mle (m0) (wm W)) {g0 : Nat} {d0 : DdiskDisk} (h0 : Ow (.ptr TdiskDisk) m0 [.pointer (some ⟨g0, 0, none⟩)] (g0, d0)) : CallR Try.prog 69 [.pointer (some ⟨g0, 0, none⟩)] W (m0) (fun v m' => v = .bool (decide (d0.1 = false)) ∧ Ow (.ptr TdiskDisk) m' [.pointer (some ⟨g0, 0, none⟩)] (g0, d0)) := by
  refine CallR.ofB (n := 12) hm Try.func69 rfl rfl rfl ?_
  refine VC.rs ?_
  refine VO.as ?_
  refine VO.k2 0 2 ?_
  refine VC.rs ?_
  refine VO.mv ?_
  refine VO.y rfl (.pnil rfl rfl Try.underlying27 rfl) ?_
  refine VO.mv ?_
  refine VO.gy rfl ⟨_, rfl, rfl⟩ (.mv rfl) ?_
  refine VO.gy rfl ⟨_, rfl, rfl⟩ (.nilp rfl) ?_
  refine VO.gy rfl ⟨_, rfl, rfl⟩ (.fa rfl tst62 rfl) ?_
  obtain ⟨q1_E, q1_A5, q1_c5, q1_A6, q1_c6, q1_A7, q1_c7, q1_A8, q1_c8, q1_A9, q1_c9, q1_n5, q1_n6, q1_n7, q1_n8, q1_n9, _, q1_S, q1_3, q1_4, q1_5, q1_6, q1_7, q1_8, q1_9⟩ := openP_diskDisk (x0 := d0.1) (x1 := d0.2.1) (x2 := d0.2.2.1) (x3 := d0.2.2.2.1) (x4 := d0.2.2.2.2.1) (x5 := d0.2.2.2.2.2.1.1) (x6 := d0.2.2.2.2.2.1.2.1) (x7 := d0.2.2.2.2.2.1.2.2.1) (x8 := d0.2.2.2.2.2.1.2.2.2) (x9 := d0.2.2.2.2.2.2) h0
  simp only [inK] at q1_3
  simp only [inK] at q1_4
  have q1_r5 := q1_5.rm
  have q1_r6 := q1_6.rm
  have q1_r7 := q1_7.rm
  have q1_r8 := q1_8.rm
  have q1_r9 := q1_9.rm
  refine VO.inv _ (fun _ h => h.parts (i := 1) rfl q1_S [107, 102, 103, 104, 105, 106]) ?_
  refine VO.gy rfl ⟨_, rfl, rfl⟩ (.ld1 107 rfl tk4 rfl (cellsAt_one rfl rfl)) ?_
  refine VO.gy rfl ⟨_, rfl, rfl⟩ (.not rfl) ?_
  refine VO.y rfl (.pF rfl rfl) ?_
  refine VO.as ?_
  refine VO.clsP 108 [107, 102, 103, 104, 105, 106] rfl (fun hg8 => (show Ow (.ptr TdiskDisk) _ _ (_, d0) from (mkP_diskDisk d0.1 d0.2.1 d0.2.2.1 d0.2.2.2.1 d0.2.2.2.2.1 d0.2.2.2.2.2.1.1 d0.2.2.2.2.2.1.2.1 d0.2.2.2.2.2.1.2.2.1 d0.2.2.2.2.2.1.2.2.2 d0.2.2.2.2.2.2 hg8 bdk bdk (OwnL.ow (Ow.ownl q1_5 rfl mnil) rfl) (OwnL.ow (Ow.ownl q1_6 rfl mnil) rfl) (OwnL.ow (Ow.ownl q1_7 rfl mnil) rfl) (OwnL.ow (Ow.ownl q1_8 rfl mnil) rfl) q1_9))) (fun mc8 ho8 => ?_)
  refine VO.k2 0 2 ?_
  refine VC.ret ?_
  refine ⟨_, _, res_run (rs := [.tmp 2]) rfl (.tmp rfl .nil), fun W_ hI => out_of (l := [mc8]) hI [108] rfl rfl (mle_refl _) (fun hS_ => ?_)⟩
  dsimp only [packV]
  have hm0_ : (d0 : DdiskDisk) = d0 := by first | rfl | (simp [*]; done)
  refine ⟨?_, ?_⟩
  rotate_left
  · rw [hm0_]; exact (Ow.up ho8 (hS_.1 _ (.head _)))
  all_goals (first | rfl | (cases d0.1 <;> rfl))
theorem dWrong_ok (W : World) {m0 : Mem} (hm : mle (m0) (wm W)) {g0 : Nat} {d0 : DdiskDisk} (h0 : Ow (.ptr TdiskDisk) m0 [.pointer (some ⟨g0, 0, none⟩)] (g0, d0)) : CallR Try.prog 65 [.pointer (some ⟨g0, 0, none⟩)] W (m0) (fun v m' => v = .int .i64 (wrongD d0) ∧ Ow (.ptr TdiskDisk) m' [.pointer (some ⟨g0, 0, none⟩)] (g0, d0)) := by
  refine CallR.ofB (n := 11) hm Try.func65 rfl rfl rfl ?_
  refine VC.rs ?_
  refine VO.as ?_
  refine VO.k2 0 2 ?_
  refine VC.seq ?_
  refine VC.block ?_
  refine VC.rs ?_
  refine VO.mv ?_
  refine VO.call 1 rfl fnOk69 rfl rfl (fun W hW => dNone_ok W (hW.at (i := 1) rfl) h0) (fun v1 m1 hv1 => ?_)
  obtain ⟨rfl, w1_0⟩ := hv1
  refine VO.as ?_
  refine VO.k3 0 2 3 ?_
  refine VC.cond rfl (fun hc2 => ?_) (fun hc2 => ?_)
  · -- T
    refine VC.rs ?_
    refine VO.as ?_
    refine VO.kp [1, 0] [(1, m1), (0, mout (wm W) (m0))] ?_
    refine VO.k3 0 2 3 ?_
    refine VC.ret ?_
    refine outBR ?_
    refine outR ?_
    refine ⟨_, _, res_run (rs := [.tmp 2]) rfl (.tmp rfl .nil), fun W_ hI => out_of (l := [m1]) hI [1] rfl rfl (mle_refl _) (fun hS_ => ?_)⟩
    dsimp only [packV]
    have hm0_ : (d0 : DdiskDisk) = d0 := by first | rfl | (simp [*]; done)
    refine ⟨?_, ?_⟩
    rotate_left
    · rw [hm0_]; exact (Ow.up w1_0 (hS_.1 _ (.head _)))
    all_goals (first | rfl | (simp [wrongD, *]))
  · -- F
    refine VC.rs ?_
    refine VO.mv ?_
    refine VO.y rfl (.nilp rfl) ?_
    refine VO.y rfl (.fa rfl tst62 rfl) ?_
    obtain ⟨q3_E, q3_A5, q3_c5, q3_A6, q3_c6, q3_A7, q3_c7, q3_A8, q3_c8, q3_A9, q3_c9, q3_n5, q3_n6, q3_n7, q3_n8, q3_n9, _, q3_S, q3_3, q3_4, q3_5, q3_6, q3_7, q3_8, q3_9⟩ := openP_diskDisk (x0 := d0.1) (x1 := d0.2.1) (x2 := d0.2.2.1) (x3 := d0.2.2.2.1) (x4 := d0.2.2.2.2.1) (x5 := d0.2.2.2.2.2.1.1) (x6 := d0.2.2.2.2.2.1.2.1) (x7 := d0.2.2.2.2.2.1.2.2.1) (x8 := d0.2.2.2.2.2.1.2.2.2) (x9 := d0.2.2.2.2.2.2) w1_0
    simp only [inK] at q3_3
    simp only [inK] at q3_4
    have q3_r5 := q3_5.rm
    have q3_r6 := q3_6.rm
    have q3_r7 := q3_7.rm
    have q3_r8 := q3_8.rm
    have q3_r9 := q3_9.rm
    refine VO.inv _ (fun _ h => h.parts (i := 1) rfl q3_S [109, 104, 105, 106, 107, 108]) ?_
    refine VO.y rfl (.ld1 109 rfl tk4 rfl (cellsAt_one rfl rfl)) ?_
    refine VO.as ?_
    refine VO.clsP 110 [109, 104, 105, 106, 107, 108] rfl (fun hg10 => (show Ow (.ptr TdiskDisk) _ _ (_, d0) from (mkP_diskDisk d0.1 d0.2.1 d0.2.2.1 d0.2.2.2.1 d0.2.2.2.2.1 d0.2.2.2.2.2.1.1 d0.2.2.2.2.2.1.2.1 d0.2.2.2.2.2.1.2.2.1 d0.2.2.2.2.2.1.2.2.2 d0.2.2.2.2.2.2 hg10 bdk bdk (OwnL.ow (Ow.ownl q3_5 rfl mnil) rfl) (OwnL.ow (Ow.ownl q3_6 rfl mnil) rfl) (OwnL.ow (Ow.ownl q3_7 rfl mnil) rfl) (OwnL.ow (Ow.ownl q3_8 rfl mnil) rfl) q3_9))) (fun mc10 ho10 => ?_)
    refine VO.kp [110, 0] [(110, mc10), (0, mout (wm W) (m0))] ?_
    refine VO.k4 0 2 3 6 ?_
    refine VC.condB rfl (fun hc11 => ?_) (fun hc11 => ?_)
    · -- FT
      refine VC.rs ?_
      refine VO.as ?_
      refine VO.k4 0 2 3 6 ?_
      refine VC.ret ?_
      refine outBR ?_
      refine outR ?_
      refine ⟨_, _, res_run (rs := [.tmp 2]) rfl (.tmp rfl .nil), fun W_ hI => out_of (l := [mc10]) hI [110] rfl rfl (mle_refl _) (fun hS_ => ?_)⟩
      dsimp only [packV]
      have hm0_ : (d0 : DdiskDisk) = d0 := by first | rfl | (simp [*]; done)
      refine ⟨?_, ?_⟩
      rotate_left
      · rw [hm0_]; exact (Ow.up ho10 (hS_.1 _ (.head _)))
      all_goals (first | rfl | (simp [wrongD, *]))
    · -- FF
      refine VC.skip ?_
      refine outBN ?_
      refine outN ?_
      refine VC.rs ?_
      refine VO.as ?_
      refine VO.k4 0 2 3 6 ?_
      refine VC.ret ?_
      refine ⟨_, _, res_run (rs := [.tmp 2]) rfl (.tmp rfl .nil), fun W_ hI => out_of (l := [mc10]) hI [110] rfl rfl (mle_refl _) (fun hS_ => ?_)⟩
      dsimp only [packV]
      have hm0_ : (d0 : DdiskDisk) = d0 := by first | rfl | (simp [*]; done)
      refine ⟨?_, ?_⟩
      rotate_left
      · rw [hm0_]; exact (Ow.up ho10 (hS_.1 _ (.head _)))
      all_goals (first | rfl | (simp [wrongD, *]))
theorem dBurn_ok (W : World) {m0 : Mem} (hm : mle (m0) (wm W)) {g0 : Nat} {d0 : DdiskDisk} (h0 : Ow (.ptr TdiskDisk) m0 [.pointer (some ⟨g0, 0, none⟩)] (g0, d0)) (e0 : okD d0) (e1 : wD d0 ≤ 2*1000000000000) : CallR Try.prog 76 [.pointer (some ⟨g0, 0, none⟩)] W (m0) (fun v m' => v = .bool (decide ((burnD d0).2 = true)) ∧ Ow (.ptr TdiskDisk) m' [.pointer (some ⟨g0, 0, none⟩)] (g0, (burnD d0).1)) := by
  obtain ⟨hg, hfu, hst⟩ := e0; simp only [wD] at e1
  refine CallR.ofB (n := 29) hm Try.func76 rfl rfl rfl ?_
  refine VC.rs ?_
  refine VO.as ?_
  refine VO.k2 0 2 ?_
  refine VC.seq ?_
  refine VC.rs ?_
  refine VO.mv ?_
  refine VO.y rfl (.nilp rfl) ?_
  refine VO.y rfl (.fa rfl tst62 rfl) ?_
  obtain ⟨q1_E, q1_A5, q1_c5, q1_A6, q1_c6, q1_A7, q1_c7, q1_A8, q1_c8, q1_A9, q1_c9, q1_n5, q1_n6, q1_n7, q1_n8, q1_n9, _, q1_S, q1_3, q1_4, q1_5, q1_6, q1_7, q1_8, q1_9⟩ := openP_diskDisk (x0 := d0.1) (x1 := d0.2.1) (x2 := d0.2.2.1) (x3 := d0.2.2.2.1) (x4 := d0.2.2.2.2.1) (x5 := d0.2.2.2.2.2.1.1) (x6 := d0.2.2.2.2.2.1.2.1) (x7 := d0.2.2.2.2.2.1.2.2.1) (x8 := d0.2.2.2.2.2.1.2.2.2) (x9 := d0.2.2.2.2.2.2) h0
  simp only [inK] at q1_3
  simp only [inK] at q1_4
  have q1_r5 := q1_5.rm
  have q1_r6 := q1_6.rm
  have q1_r7 := q1_7.rm
  have q1_r8 := q1_8.rm
  have q1_r9 := q1_9.rm
  refine VO.inv _ (fun _ h => h.parts (i := 1) rfl q1_S [107, 102, 103, 104, 105, 106]) ?_
  refine VO.y rfl (.ld1 107 rfl tk4 rfl (cellsAt_one rfl rfl)) ?_
  refine VO.clsP 108 [107, 102, 103, 104, 105, 106] rfl (fun hg8 => (show Ow (.ptr TdiskDisk) _ _ (_, d0) from (mkP_diskDisk d0.1 d0.2.1 d0.2.2.1 d0.2.2.2.1 d0.2.2.2.2.1 d0.2.2.2.2.2.1.1 d0.2.2.2.2.2.1.2.1 d0.2.2.2.2.2.1.2.2.1 d0.2.2.2.2.2.1.2.2.2 d0.2.2.2.2.2.2 hg8 bdk bdk (OwnL.ow (Ow.ownl q1_5 rfl mnil) rfl) (OwnL.ow (Ow.ownl q1_6 rfl mnil) rfl) (OwnL.ow (Ow.ownl q1_7 rfl mnil) rfl) (OwnL.ow (Ow.ownl q1_8 rfl mnil) rfl) q1_9))) (fun mc8 ho8 => ?_)
  refine VO.k3 0 2 6 ?_
  refine VC.condB rfl (fun hc9 => ?_) (fun hc9 => ?_)
  · -- T
    refine VC.seq ?_
    refine VC.rs ?_
    refine VO.mv ?_
    refine VO.y rfl (.nilp rfl) ?_
    refine VO.y rfl (.fa rfl tst62 rfl) ?_
    obtain ⟨q10_E, q10_A5, q10_c5, q10_A6, q10_c6, q10_A7, q10_c7, q10_A8, q10_c8, q10_A9, q10_c9, q10_n5, q10_n6, q10_n7, q10_n8, q10_n9, _, q10_S, q10_3, q10_4, q10_5, q10_6, q10_7, q10_8, q10_9⟩ := openP_diskDisk (x0 := d0.1) (x1 := d0.2.1) (x2 := d0.2.2.1) (x3 := d0.2.2.2.1) (x4 := d0.2.2.2.2.1) (x5 := d0.2.2.2.2.2.1.1) (x6 := d0.2.2.2.2.2.1.2.1) (x7 := d0.2.2.2.2.2.1.2.2.1) (x8 := d0.2.2.2.2.2.1.2.2.2) (x9 := d0.2.2.2.2.2.2) ho8
    simp only [inK] at q10_3
    simp only [inK] at q10_4
    have q10_r5 := q10_5.rm
    have q10_r6 := q10_6.rm
    have q10_r7 := q10_7.rm
    have q10_r8 := q10_8.rm
    have q10_r9 := q10_9.rm
    refine VO.inv _ (fun _ h => h.parts (i := 108) rfl q10_S [116, 111, 112, 113, 114, 115]) ?_
    refine VO.y rfl (.ld1 116 rfl tk3 rfl (cellsAt_one rfl rfl)) ?_
    refine VO.y rfl (.eql rfl rfl) ?_
    refine VO.clsP 117 [116, 111, 112, 113, 114, 115] rfl (fun hg17 => (show Ow (.ptr TdiskDisk) _ _ (_, d0) from (mkP_diskDisk d0.1 d0.2.1 d0.2.2.1 d0.2.2.2.1 d0.2.2.2.2.1 d0.2.2.2.2.2.1.1 d0.2.2.2.2.2.1.2.1 d0.2.2.2.2.2.1.2.2.1 d0.2.2.2.2.2.1.2.2.2 d0.2.2.2.2.2.2 hg17 bdk bdk (OwnL.ow (Ow.ownl q10_5 rfl mnil) rfl) (OwnL.ow (Ow.ownl q10_6 rfl mnil) rfl) (OwnL.ow (Ow.ownl q10_7 rfl mnil) rfl) (OwnL.ow (Ow.ownl q10_8 rfl mnil) rfl) q10_9))) (fun mc17 ho17 => ?_)
    refine VO.kp [117, 0] [(117, mc17), (0, mout (wm W) (m0))] ?_
    refine VO.k4 0 2 6 11 ?_
    refine VC.cond rfl (fun hc18 => ?_) (fun hc18 => ?_)
    · -- TT
      refine VC.rs ?_
      refine VO.mv ?_
      refine VO.y rfl (.nilp rfl) ?_
      refine VO.y rfl (.fa rfl tst62 rfl) ?_
      obtain ⟨q19_E, q19_A5, q19_c5, q19_A6, q19_c6, q19_A7, q19_c7, q19_A8, q19_c8, q19_A9, q19_c9, q19_n5, q19_n6, q19_n7, q19_n8, q19_n9, _, q19_S, q19_3, q19_4, q19_5, q19_6, q19_7, q19_8, q19_9⟩ := openP_diskDisk (x0 := d0.1) (x1 := d0.2.1) (x2 := d0.2.2.1) (x3 := d0.2.2.2.1) (x4 := d0.2.2.2.2.1) (x5 := d0.2.2.2.2.2.1.1) (x6 := d0.2.2.2.2.2.1.2.1) (x7 := d0.2.2.2.2.2.1.2.2.1) (x8 := d0.2.2.2.2.2.1.2.2.2) (x9 := d0.2.2.2.2.2.2) ho17
      simp only [inK] at q19_3
      simp only [inK] at q19_4
      have q19_r5 := q19_5.rm
      have q19_r6 := q19_6.rm
      have q19_r7 := q19_7.rm
      have q19_r8 := q19_8.rm
      have q19_r9 := q19_9.rm
      refine VO.inv _ (fun _ h => h.parts (i := 117) rfl q19_S [125, 120, 121, 122, 123, 124]) ?_
      refine VO.store (k := 1) 125 rfl rfl (.inr ⟨tk4, rfl⟩) rfl rfl rfl rfl rfl ?_
      refine VO.clsP 126 [125, 120, 121, 122, 123, 124] rfl (fun hg26 => (mkP_diskDisk d0.1 true d0.2.2.1 d0.2.2.2.1 d0.2.2.2.2.1 d0.2.2.2.2.2.1.1 d0.2.2.2.2.2.1.2.1 d0.2.2.2.2.2.1.2.2.1 d0.2.2.2.2.2.1.2.2.2 d0.2.2.2.2.2.2 hg26 bdk bdk (OwnL.ow (Ow.ownl q19_5 rfl mnil) rfl) (OwnL.ow (Ow.ownl q19_6 rfl mnil) rfl) (OwnL.ow (Ow.ownl q19_7 rfl mnil) rfl) (OwnL.ow (Ow.ownl q19_8 rfl mnil) rfl) q19_9)) (fun mc26 ho26 => ?_)
      refine VO.k4 0 2 6 11 ?_
      refine VC.rs ?_
      refine VO.as ?_
      refine VO.k4 0 2 6 11 ?_
      refine VC.ret ?_
      refine outR ?_
      refine outR ?_
      refine ⟨_, _, res_run (rs := [.tmp 2]) rfl (.tmp rfl .nil), fun W_ hI => out_of (l := [mc26]) hI [126] rfl rfl (mle_refl _) (fun hS_ => ?_)⟩
      dsimp only [packV]
      have hm0_ : ((burnD d0).1 : DdiskDisk) = (d0.1, true, d0.2.2) := by first | rfl | (simp [burnD, *]; done)
      refine ⟨?_, ?_⟩
      rotate_left
      · rw [hm0_]; exact (Ow.up ho26 (hS_.1 _ (.head _)))
      all_goals (first | rfl | (simp [burnD, *]; done))
    · -- TF
      refine VC.skip ?_
      refine outN ?_
      refine VC.reg ?_
      refine VO.mv ?_
      refine VO.y rfl (.nilp rfl) ?_
      refine VO.y rfl (.fa rfl tst62 rfl) ?_
      obtain ⟨q27_E, q27_A5, q27_c5, q27_A6, q27_c6, q27_A7, q27_c7, q27_A8, q27_c8, q27_A9, q27_c9, q27_n5, q27_n6, q27_n7, q27_n8, q27_n9, _, q27_S, q27_3, q27_4, q27_5, q27_6, q27_7, q27_8, q27_9⟩ := openP_diskDisk (x0 := d0.1) (x1 := d0.2.1) (x2 := d0.2.2.1) (x3 := d0.2.2.2.1) (x4 := d0.2.2.2.2.1) (x5 := d0.2.2.2.2.2.1.1) (x6 := d0.2.2.2.2.2.1.2.1) (x7 := d0.2.2.2.2.2.1.2.2.1) (x8 := d0.2.2.2.2.2.1.2.2.2) (x9 := d0.2.2.2.2.2.2) ho17
      simp only [inK] at q27_3
      simp only [inK] at q27_4
      have q27_r5 := q27_5.rm
      have q27_r6 := q27_6.rm
      have q27_r7 := q27_7.rm
      have q27_r8 := q27_8.rm
      have q27_r9 := q27_9.rm
      refine VO.inv _ (fun _ h => h.parts (i := 117) rfl q27_S [133, 128, 129, 130, 131, 132]) ?_
      refine VO.y rfl (.ld1 133 rfl tk3 rfl (cellsAt_one rfl rfl)) ?_
      refine VO.y rfl (.sub rfl rfl rfl ⟨bd, bd⟩) ?_
      refine VO.y rfl (.nilp rfl) ?_
      refine VO.y rfl (.fa rfl tst62 rfl) ?_
      refine VO.store (k := 1) 133 rfl rfl (.inr ⟨tk3, rfl⟩) rfl rfl rfl rfl rfl ?_
      refine VO.clsP 134 [133, 128, 129, 130, 131, 132] rfl (fun hg34 => (mkP_diskDisk d0.1 d0.2.1 d0.2.2.1 (d0.2.2.2.1 - 1) d0.2.2.2.2.1 d0.2.2.2.2.2.1.1 d0.2.2.2.2.2.1.2.1 d0.2.2.2.2.2.1.2.2.1 d0.2.2.2.2.2.1.2.2.2 d0.2.2.2.2.2.2 hg34 bdk bdk (OwnL.ow (Ow.ownl q27_5 rfl mnil) rfl) (OwnL.ow (Ow.ownl q27_6 rfl mnil) rfl) (OwnL.ow (Ow.ownl q27_7 rfl mnil) rfl) (OwnL.ow (Ow.ownl q27_8 rfl mnil) rfl) q27_9)) (fun mc34 ho34 => ?_)
      refine VO.k4 0 2 6 11 ?_
      refine outN ?_
      refine VC.rs ?_
      refine VO.mv ?_
      refine VO.y rfl (.nilp rfl) ?_
      refine VO.y rfl (.fa rfl tst62 rfl) ?_
      obtain ⟨q35_E, q35_A5, q35_c5, q35_A6, q35_c6, q35_A7, q35_c7, q35_A8, q35_c8, q35_A9, q35_c9, q35_n5, q35_n6, q35_n7, q35_n8, q35_n9, _, q35_S, q35_3, q35_4, q35_5, q35_6, q35_7, q35_8, q35_9⟩ := openP_diskDisk (x0 := d0.1) (x1 := d0.2.1) (x2 := d0.2.2.1) (x3 := d0.2.2.2.1 - 1) (x4 := d0.2.2.2.2.1) (x5 := d0.2.2.2.2.2.1.1) (x6 := d0.2.2.2.2.2.1.2.1) (x7 := d0.2.2.2.2.2.1.2.2.1) (x8 := d0.2.2.2.2.2.1.2.2.2) (x9 := d0.2.2.2.2.2.2) ho34
      simp only [inK] at q35_3
      simp only [inK] at q35_4
      have q35_r5 := q35_5.rm
      have q35_r6 := q35_6.rm
      have q35_r7 := q35_7.rm
      have q35_r8 := q35_8.rm
      have q35_r9 := q35_9.rm
      refine VO.inv _ (fun _ h => h.parts (i := 134) rfl q35_S [141, 136, 137, 138, 139, 140]) ?_
      refine VO.y rfl (.ld1 141 rfl tk3 rfl (cellsAt_one rfl rfl)) ?_
      refine VO.y rfl (.add rfl rfl rfl ⟨bd, bd⟩) ?_
      refine VO.y rfl (.nilp rfl) ?_
      refine VO.y rfl (.fa rfl tst62 rfl) ?_
      refine VO.store (k := 1) 141 rfl rfl (.inr ⟨tk3, rfl⟩) rfl rfl rfl rfl rfl ?_
      refine VO.clsP 142 [141, 136, 137, 138, 139, 140] rfl (fun hg42 => (mkP_diskDisk d0.1 d0.2.1 d0.2.2.1 (d0.2.2.2.1 - 1) (d0.2.2.2.2.1 + 1) d0.2.2.2.2.2.1.1 d0.2.2.2.2.2.1.2.1 d0.2.2.2.2.2.1.2.2.1 d0.2.2.2.2.2.1.2.2.2 d0.2.2.2.2.2.2 hg42 bdk bdk (OwnL.ow (Ow.ownl q35_5 rfl mnil) rfl) (OwnL.ow (Ow.ownl q35_6 rfl mnil) rfl) (OwnL.ow (Ow.ownl q35_7 rfl mnil) rfl) (OwnL.ow (Ow.ownl q35_8 rfl mnil) rfl) q35_9)) (fun mc42 ho42 => ?_)
      refine VO.k4 0 2 6 11 ?_
      refine VC.rs ?_
      refine VO.as ?_
      refine VO.kp [142, 0] [(142, mc42), (0, mout (wm W) (m0))] ?_
      refine VO.k4 0 2 6 11 ?_
      refine VC.ret ?_
      refine ⟨_, _, res_run (rs := [.tmp 2]) rfl (.tmp rfl .nil), fun W_ hI => out_of (l := [mc42]) hI [142] rfl rfl (mle_refl _) (fun hS_ => ?_)⟩
      dsimp only [packV]
      have hm0_ : ((burnD d0).1 : DdiskDisk) = (d0.1, d0.2.1, d0.2.2.1, d0.2.2.2.1 - 1, d0.2.2.2.2.1 + 1, d0.2.2.2.2.2) := by first | rfl | (simp [burnD, *]; done)
      refine ⟨?_, ?_⟩
      rotate_left
      · rw [hm0_]; exact (Ow.up ho42 (hS_.1 _ (.head _)))
      all_goals (first | rfl | (simp [burnD, *]; done))
  · -- F
    refine VC.skip ?_
    refine outN ?_
    refine VC.rs ?_
    refine VO.mv ?_
    refine VO.y rfl (.nilp rfl) ?_
    refine VO.y rfl (.fa rfl tst62 rfl) ?_
    obtain ⟨q43_E, q43_A5, q43_c5, q43_A6, q43_c6, q43_A7, q43_c7, q43_A8, q43_c8, q43_A9, q43_c9, q43_n5, q43_n6, q43_n7, q43_n8, q43_n9, _, q43_S, q43_3, q43_4, q43_5, q43_6, q43_7, q43_8, q43_9⟩ := openP_diskDisk (x0 := d0.1) (x1 := d0.2.1) (x2 := d0.2.2.1) (x3 := d0.2.2.2.1) (x4 := d0.2.2.2.2.1) (x5 := d0.2.2.2.2.2.1.1) (x6 := d0.2.2.2.2.2.1.2.1) (x7 := d0.2.2.2.2.2.1.2.2.1) (x8 := d0.2.2.2.2.2.1.2.2.2) (x9 := d0.2.2.2.2.2.2) ho8
    simp only [inK] at q43_3
    simp only [inK] at q43_4
    have q43_r5 := q43_5.rm
    have q43_r6 := q43_6.rm
    have q43_r7 := q43_7.rm
    have q43_r8 := q43_8.rm
    have q43_r9 := q43_9.rm
    refine VO.inv _ (fun _ h => h.parts (i := 108) rfl q43_S [149, 144, 145, 146, 147, 148]) ?_
    refine VO.y rfl (.ld1 149 rfl tk3 rfl (cellsAt_one rfl rfl)) ?_
    refine VO.y rfl (.add rfl rfl rfl ⟨bd, bd⟩) ?_
    refine VO.y rfl (.nilp rfl) ?_
    refine VO.y rfl (.fa rfl tst62 rfl) ?_
    refine VO.store (k := 1) 149 rfl rfl (.inr ⟨tk3, rfl⟩) rfl rfl rfl rfl rfl ?_
    refine VO.clsP 150 [149, 144, 145, 146, 147, 148] rfl (fun hg50 => (mkP_diskDisk d0.1 d0.2.1 d0.2.2.1 d0.2.2.2.1 (d0.2.2.2.2.1 + 1) d0.2.2.2.2.2.1.1 d0.2.2.2.2.2.1.2.1 d0.2.2.2.2.2.1.2.2.1 d0.2.2.2.2.2.1.2.2.2 d0.2.2.2.2.2.2 hg50 bdk bdk (OwnL.ow (Ow.ownl q43_5 rfl mnil) rfl) (OwnL.ow (Ow.ownl q43_6 rfl mnil) rfl) (OwnL.ow (Ow.ownl q43_7 rfl mnil) rfl) (OwnL.ow (Ow.ownl q43_8 rfl mnil) rfl) q43_9)) (fun mc50 ho50 => ?_)
    refine VO.kp [150, 0] [(150, mc50), (0, mout (wm W) (m0))] ?_
    refine VO.k3 0 2 6 ?_
    refine VC.rs ?_
    refine VO.as ?_
    refine VO.k3 0 2 6 ?_
    refine VC.ret ?_
    refine ⟨_, _, res_run (rs := [.tmp 2]) rfl (.tmp rfl .nil), fun W_ hI => out_of (l := [mc50]) hI [150] rfl rfl (mle_refl _) (fun hS_ => ?_)⟩
    dsimp only [packV]
    have hm0_ : ((burnD d0).1 : DdiskDisk) = (d0.1, d0.2.1, d0.2.2.1, d0.2.2.2.1, d0.2.2.2.2.1 + 1, d0.2.2.2.2.2) := by first | rfl | (simp [burnD, *]; done)
    refine ⟨?_, ?_⟩
    rotate_left
    · rw [hm0_]; exact (Ow.up ho50 (hS_.1 _ (.head _)))
    all_goals (first | rfl | (simp [burnD, *]; done))
theorem dDone_ok (W : World) {m0 : Mem} (hm : mle (m0) (wm W)) {v0 : Value} {d0 : List UInt8} (h0 : Ow (.sl .byte) m0 [v0] d0) {v1 : List Value} {d1 : Ddiskstep} (h1 : Rd Tdiskstep (mout (wm W) (m0)) v1 d1) (e0 : d1.1 = 1 → 0 ≤ d1.2.2.2 ∧ d1.2.2.2 ≤ d0.length) (e1 : d0.length + d1.2.2.1.length ≤ 140737488355000) : CallR Try.prog 71 [v0, .agg v1.toArray] W (m0) (fun v m' => ∃ (s0 : Value), v = s0 ∧ Ow (.sl .byte) m' [s0] (doneB d0 d1)) := by
  obtain ⟨A0, c0, e0_, l0, k0⟩ := h0.slice
  subst e0_
  simp only [maxLen] at k0
  obtain ⟨p1_A2, p1_c2, rfl, p1_0, p1_1, p1_2, p1_3⟩ := open_diskstep (x0 := d1.1) (x1 := d1.2.1) (x2 := d1.2.2.1) (x3 := d1.2.2.2) h1
  simp only [inK] at p1_0
  simp only [inK] at p1_1
  have p1_r2 := Rd.room p1_2
  simp only [inK] at p1_3
  refine CallR.ofB (n := 20) hm Try.func71 rfl rfl rfl ?_
  refine VC.rs ?_
  refine VO.box (cs := [Value.int .i64 (d1.1), Value.int .i64 (d1.2.1), Value.slice p1_A2 (d1.2.2.1.length) (p1_c2), Value.int .i64 (d1.2.2.2)]) 102 rfl rfl rfl (fun g1 => ?_)
  refine VO.as ?_
  refine VO.k4 0 1 3 4 ?_
  refine VC.seq ?_
  refine VC.rs ?_
  refine VO.y rfl (.fa rfl tst107 rfl) ?_
  refine VO.y rfl (.ld1 102 rfl tk3 rfl (cellsAt_one rfl rfl)) ?_
  refine VO.k5 0 1 3 4 6 ?_
  refine VC.block ?_
  refine VC.rs ?_
  refine VO.y rfl (.eql rfl rfl) ?_
  refine VO.as ?_
  refine VO.kp [102, 0, 1] [(102, mone g1 (.cells [Value.int .i64 (d1.1), Value.int .i64 (d1.2.1), Value.slice p1_A2 (d1.2.2.1.length) (p1_c2), Value.int .i64 (d1.2.2.2)].toArray 107 (0, 0))), (0, mout (wm W) (m0)), (1, m0)] ?_
  refine VO.k6 0 1 3 4 6 7 ?_
  refine VC.cond rfl (fun hc3 => ?_) (fun hc3 => ?_)
  · -- T
    refine VC.rs ?_
    refine VO.mv ?_
    refine VO.y rfl (.fa rfl tst107 rfl) ?_
    refine VO.y rfl (.ld1 102 rfl tk38 rfl (cellsAt_one rfl rfl)) ?_
    obtain ⟨mo4, cs4, hM4, hA4, hC4⟩ := (Ow.ownl h0 rfl mnil)
    obtain ⟨all4, hS4, hR4⟩ := Rd.srcI (P := Try.prog) (p1_2) Try.underlying38
    refine VO.app 1 rfl rfl rfl tsl38 tz5 rfl rfl hM4 hA4 (hS4 _ 0 rfl) hR4.nice bdm bd (by decide) (fun v4 m4 hN4 => ?_)
    have ho4 : OwnL .byte m4 mnil v4 (d0 ++ d1.2.2.1) := OwnL.more hC4 hN4 (All2c.mono hR4 fun _ _ h => Rd.flat rfl h _)
    obtain ⟨A4, c4, rfl, l4, k4⟩ := ho4.slice
    simp only [maxLen] at k4
    refine VO.as ?_
    refine VO.k6 0 1 3 4 6 7 ?_
    refine VC.ret ?_
    refine outBR ?_
    refine outR ?_
    refine ⟨_, _, res_run (rs := [.tmp 4]) rfl (.tmp rfl .nil), fun W_ hI => out_of (l := [m4]) hI [1] rfl rfl (mle_refl _) (fun hS_ => ?_)⟩
    dsimp only [packV]
    have he0 : (doneB d0 d1 : Ty.Den (.sl .byte)) = d0 ++ d1.2.2.1 := by first | rfl | (simp [doneB, *]; done)
    refine ⟨Value.slice A4 ((d0 ++ d1.2.2.1).length) (c4), ?_, ?_⟩
    rotate_left
    · rw [he0]; exact (Ow.up (OwnL.ow ho4 rfl) (hS_.1 _ (.head _)))
    all_goals (first | rfl | (simp [*]; done))
  · -- F
    refine VC.rs ?_
    refine VO.y rfl (.eql rfl rfl) ?_
    refine VO.as ?_
    refine VO.k7 0 1 3 4 6 7 13 ?_
    refine VC.cond rfl (fun hc5 => ?_) (fun hc5 => ?_)
    · -- FT
      refine VC.rs ?_
      refine VO.mv ?_
      refine VO.y rfl (.fa rfl tst107 rfl) ?_
      refine VO.y rfl (.ld1 102 rfl tk3 rfl (cellsAt_one rfl rfl)) ?_
      have hs6 := (OwnL.rd (Ow.ownl h0 rfl mnil) (mle_refl _) (mle_nil _)).pre (j := ((d1.2.2.2).toNat)) bd
      refine VO.y rfl (.slHI ((d1.2.2.2).toNat) rfl rfl tsl38 bd bd) ?_
      refine VO.as ?_
      refine VO.k7 0 1 3 4 6 7 13 ?_
      refine VC.ret ?_
      refine outBR ?_
      refine outR ?_
      refine ⟨_, _, res_run (rs := [.tmp 4]) rfl (.tmp rfl .nil), fun W_ hI => out_of (l := [m0]) hI [1] rfl rfl (mle_refl _) (fun hS_ => ?_)⟩
      dsimp only [packV]
      have he0 : (doneB d0 d1 : Ty.Den (.sl .byte)) = (d0).take ((d1.2.2.2).toNat) := by first | rfl | (simp [doneB, *]; done)
      refine ⟨Value.slice A0 ((d1.2.2.2).toNat) (c0), ?_, ?_⟩
      rotate_left
      · rw [he0]; exact (Ow.up (OwnL.ow ((Ow.ownl h0 rfl mnil).pre (j := ((d1.2.2.2).toNat)) bd) rfl) (hS_.1 _ (.head _)))
      all_goals (first | rfl | (simp [*]; done))
    · -- FF
      refine VC.skip ?_
      refine outBN ?_
      refine outN ?_
      refine VC.rs ?_
      refine VO.mv ?_
      refine VO.as ?_
      refine VO.k7 0 1 3 4 6 7 13 ?_
      refine VC.ret ?_
      refine ⟨_, _, res_run (rs := [.tmp 4]) rfl (.tmp rfl .nil), fun W_ hI => out_of (l := [m0]) hI [1] rfl rfl (mle_refl _) (fun hS_ => ?_)⟩
      dsimp only [packV]
      have he0 : (doneB d0 d1 : Ty.Den (.sl .byte)) = d0 := by first | rfl | (simp [doneB, *]; done)
      refine ⟨Value.slice A0 (d0.length) (c0), ?_, ?_⟩
      rotate_left
      · rw [he0]; exact (Ow.up (OwnL.ow (Ow.ownl h0 rfl mnil) rfl) (hS_.1 _ (.head _)))
      all_goals (first | rfl | (simp [*]; done))
theorem fnOk71 : fnOk Try.prog 71 = true := by kernel_rfl
theorem tar59 : tar Try.prog 59 = some (4, 1) := by kernel_rfl
theorem tk107 : tk Try.prog 107 = some (some 4) := by kernel_rfl
theorem tk60 : tk Try.prog 60 = some none := by kernel_rfl
theorem tsl60 : tsl Try.prog 60 = some (107, 4, 48) := by kernel_rfl
theorem tz107 : tz Try.prog 107 = some [.int .i64 0, .int .i64 0, .slice none 0 0, .int .i64 0] := by kernel_rfl
theorem dHeld_ok (W : World) {m0 : Mem} (hm : mle (m0) (wm W)) {g0 : Nat} {d0 : DdiskDisk} (h0 : Ow (.ptr TdiskDisk) m0 [.pointer (some ⟨g0, 0, none⟩)] (g0, d0)) (d1 : Int) (h1 : inK .i64 d1) (e0 : okD d0) (e1 : wD d0 ≤ 2*1000000000000) (e2 : inF d1) : CallR Try.prog 74 [.pointer (some ⟨g0, 0, none⟩), .int .i64 d1] W (m0) (fun v m' => ∃ (s0 : Value), ∃ (p0 : Mem), ∃ (p1 : Mem), v = s0 ∧ Seps m' [p0, p1] ∧ Ow (.sl .byte) p0 [s0] (heldB d0.2.2.2.2.2.1 d0.2.2.2.2.2.2 d1) ∧ Ow (.ptr TdiskDisk) p1 [.pointer (some ⟨g0, 0, none⟩)] (g0, d0)) := by
  obtain ⟨hg, hfu, hst⟩ := e0; simp only [wD, sizeQ] at e1; have hin := e2; simp only [inF] at hin
  have h1' := h1; simp only [inK] at h1'
  refine CallR.ofB (n := 33) hm Try.func74 rfl rfl rfl ?_
  refine VC.rs ?_
  refine VO.as ?_
  refine VO.k3 0 1 4 ?_
  refine VC.seqJ (G := (List UInt8) × (Option Addr) × Nat × Mem × Mem) (fun g => [(5, Value.slice (g.2.1) ((g.1).length) ((g.2.2.1))), (0, Value.pointer (some ⟨g0, 0, none⟩)), (1, Value.int .i64 (d1)), (4, Value.slice none (0) (0))]) (fun g => [(111, (g.2.2.2.2)), (110, (g.2.2.2.1)), (0, mout (wm W) (m0))]) (fun g => ((g.1) = heldB d0.2.2.2.2.2.1 (d0.2.2.2.2.2.2.take 0) d1) ∧ (OwnL .byte (g.2.2.2.1) mnil (.slice (g.2.1) (g.1).length (g.2.2.1)) (g.1)) ∧ (Ow (.ptr TdiskDisk) (g.2.2.2.2) [.pointer (some ⟨g0, 0, none⟩)] (g0, d0))) ?_ ?_
  · -- 0J
    rintro ⟨bj, bj_A, bj_c, bj_m, dd_m⟩ ⟨hbj, h_bj, h_dd⟩
    replace hbj : bj = heldB d0.2.2.2.2.2.1 (d0.2.2.2.2.2.2.take 0) d1 := hbj
    replace h_bj : OwnL .byte bj_m mnil (.slice bj_A bj.length bj_c) bj := h_bj
    replace h_dd : Ow (.ptr TdiskDisk) dd_m [.pointer (some ⟨g0, 0, none⟩)] (g0, d0) := h_dd
    show VC _ _ _ _ _ [(5, Value.slice bj_A (bj.length) (bj_c)), (0, Value.pointer (some ⟨g0, 0, none⟩)), (1, Value.int .i64 (d1)), (4, Value.slice none (0) (0))] [(111, dd_m), (110, bj_m), (0, mout (wm W) (m0))]
    have l_bj : bj.length ≤ bj_c := by obtain ⟨_, _, he, hl, _⟩ := h_bj.slice; simp only [Value.slice.injEq] at he; omega
    have k_bj : bj_c ≤ 9223372036854775807 := by obtain ⟨_, _, he, _, hl⟩ := h_bj.slice; simp only [Value.slice.injEq, maxLen] at he hl; omega
    refine VC.seq ?_
    refine VC.rs ?_
    refine VO.mv ?_
    refine VO.y rfl (.nilp rfl) ?_
    refine VO.y rfl (.fa rfl tst62 rfl) ?_
    obtain ⟨q12_E, q12_A5, q12_c5, q12_A6, q12_c6, q12_A7, q12_c7, q12_A8, q12_c8, q12_A9, q12_c9, q12_n5, q12_n6, q12_n7, q12_n8, q12_n9, _, q12_S, q12_3, q12_4, q12_5, q12_6, q12_7, q12_8, q12_9⟩ := openP_diskDisk (x0 := d0.1) (x1 := d0.2.1) (x2 := d0.2.2.1) (x3 := d0.2.2.2.1) (x4 := d0.2.2.2.2.1) (x5 := d0.2.2.2.2.2.1.1) (x6 := d0.2.2.2.2.2.1.2.1) (x7 := d0.2.2.2.2.2.1.2.2.1) (x8 := d0.2.2.2.2.2.1.2.2.2) (x9 := d0.2.2.2.2.2.2) h_dd
    simp only [inK] at q12_3
    simp only [inK] at q12_4
    have q12_r5 := q12_5.rm
    have q12_r6 := q12_6.rm
    have q12_r7 := q12_7.rm
    have q12_r8 := q12_8.rm
    have q12_r9 := q12_9.rm
    refine VO.inv _ (fun _ h => h.parts (i := 111) rfl q12_S [118, 113, 114, 115, 116, 117]) ?_
    refine VO.y rfl (.ld1 118 rfl tk60 rfl (cellsAt_one rfl rfl)) ?_
    refine VO.y rfl (.lenS rfl tsl60) ?_
    refine VO.mv ?_
    refine VO.kp [118, 113, 114, 115, 116, 117, 110, 0] [(118, mone g0 (.cells [Value.bool d0.1, Value.bool d0.2.1, Value.bool d0.2.2.1, Value.int .i64 (d0.2.2.2.1), Value.int .i64 (d0.2.2.2.2.1), Value.slice q12_A5 (d0.2.2.2.2.2.1.1.length) (q12_c5), Value.slice q12_A6 (d0.2.2.2.2.2.1.2.1.length) (q12_c6), Value.slice q12_A7 (d0.2.2.2.2.2.1.2.2.1.length) (q12_c7), Value.slice q12_A8 (d0.2.2.2.2.2.1.2.2.2.length) (q12_c8), Value.slice q12_A9 (d0.2.2.2.2.2.2.length) (q12_c9)].toArray q12_E (0, 0))), (113, q12_n5), (114, q12_n6), (115, q12_n7), (116, q12_n8), (117, q12_n9), (110, bj_m), (0, mout (wm W) (m0))] ?_
    refine VO.k7 0 1 4 5 18 19 20 ?_
    refine VC.block ?_
    refine VC.loop (G := Nat × (List UInt8) × (Option Addr) × Nat × Mem) (fun g => [(5, Value.slice (g.2.2.1) ((g.2.1).length) ((g.2.2.2.1))), (20, Value.int .i64 ((((g.1) : Nat) : Int))), (0, Value.pointer (some ⟨g0, 0, none⟩)), (1, Value.int .i64 (d1)), (4, Value.slice none (0) (0)), (18, Value.slice q12_A9 (d0.2.2.2.2.2.2.length) (q12_c9)), (19, Value.int .i64 (((d0.2.2.2.2.2.2.length : Nat) : Int)))]) (fun g => [(118, mone g0 (.cells [Value.bool d0.1, Value.bool d0.2.1, Value.bool d0.2.2.1, Value.int .i64 (d0.2.2.2.1), Value.int .i64 (d0.2.2.2.2.1), Value.slice q12_A5 (d0.2.2.2.2.2.1.1.length) (q12_c5), Value.slice q12_A6 (d0.2.2.2.2.2.1.2.1.length) (q12_c6), Value.slice q12_A7 (d0.2.2.2.2.2.1.2.2.1.length) (q12_c7), Value.slice q12_A8 (d0.2.2.2.2.2.1.2.2.2.length) (q12_c8), Value.slice q12_A9 (d0.2.2.2.2.2.2.length) (q12_c9)].toArray q12_E (0, 0))), (113, q12_n5), (114, q12_n6), (115, q12_n7), (116, q12_n8), (117, q12_n9), (110, (g.2.2.2.2)), (0, mout (wm W) (m0))]) (fun g => ((g.1) ≤ d0.2.2.2.2.2.2.length) ∧ ((g.2.1) = heldB d0.2.2.2.2.2.1 (d0.2.2.2.2.2.2.take (g.1)) d1) ∧ (OwnL .byte (g.2.2.2.2) mnil (.slice (g.2.2.1) (g.2.1).length (g.2.2.2.1)) (g.2.1))) (fun g => d0.2.2.2.2.2.2.length - (g.1)) (0, bj, bj_A, bj_c, bj_m) (⟨by omega, by exact hbj, h_bj⟩) ⟨⟨rfl, rfl, rfl, rfl, rfl, rfl, rfl, trivial⟩, fun _ h => h.sub [118, 113, 114, 115, 116, 117, 110, 0]⟩ ?_
    rintro ⟨k, b, b_A, b_c, b_m⟩ ⟨hk, hb, h_b⟩
    replace hk : k ≤ d0.2.2.2.2.2.2.length := hk
    replace hb : b = heldB d0.2.2.2.2.2.1 (d0.2.2.2.2.2.2.take k) d1 := hb
    replace h_b : OwnL .byte b_m mnil (.slice b_A b.length b_c) b := h_b
    show VC _ _ _ _ _ [(5, Value.slice b_A (b.length) (b_c)), (20, Value.int .i64 (((k : Nat) : Int))), (0, Value.pointer (some ⟨g0, 0, none⟩)), (1, Value.int .i64 (d1)), (4, Value.slice none (0) (0)), (18, Value.slice q12_A9 (d0.2.2.2.2.2.2.length) (q12_c9)), (19, Value.int .i64 (((d0.2.2.2.2.2.2.length : Nat) : Int)))] [(118, mone g0 (.cells [Value.bool d0.1, Value.bool d0.2.1, Value.bool d0.2.2.1, Value.int .i64 (d0.2.2.2.1), Value.int .i64 (d0.2.2.2.2.1), Value.slice q12_A5 (d0.2.2.2.2.2.1.1.length) (q12_c5), Value.slice q12_A6 (d0.2.2.2.2.2.1.2.1.length) (q12_c6), Value.slice q12_A7 (d0.2.2.2.2.2.1.2.2.1.length) (q12_c7), Value.slice q12_A8 (d0.2.2.2.2.2.1.2.2.2.length) (q12_c8), Value.slice q12_A9 (d0.2.2.2.2.2.2.length) (q12_c9)].toArray q12_E (0, 0))), (113, q12_n5), (114, q12_n6), (115, q12_n7), (116, q12_n8), (117, q12_n9), (110, b_m), (0, mout (wm W) (m0))]
    have l_b : b.length ≤ b_c := by obtain ⟨_, _, he, hl, _⟩ := h_b.slice; simp only [Value.slice.injEq] at he; omega
    have k_b : b_c ≤ 9223372036854775807 := by obtain ⟨_, _, he, _, hl⟩ := h_b.slice; simp only [Value.slice.injEq, maxLen] at he hl; omega
    refine VC.rs ?_
    refine VO.y rfl (.lss rfl rfl) ?_
    refine VO.k8 0 1 4 5 18 19 20 21 ?_
    refine VC.seq ?_
    refine VC.cond rfl (fun hc19 => ?_) (fun hc19 => ?_)
    · -- 0JT
      refine VC.skip ?_
      refine outN ?_
      refine VC.seq ?_
      refine VC.block ?_
      refine VC.rs ?_
      obtain ⟨x20, hx20⟩ : ∃ z_, (d0.2.2.2.2.2.2)[k]? = some z_ := ⟨_, List.getElem?_eq_getElem bd⟩
      obtain ⟨gg20, oo20, ec20, ea20, hce20, hre20⟩ := (Ow.rd q12_9 (mle_refl _)).elem hx20
      cases ea20
      obtain ⟨q20_A2, q20_c2, rfl, q20_0, q20_1, q20_2, q20_3⟩ := open_diskstep (x0 := x20.1) (x1 := x20.2.1) (x2 := x20.2.2.1) (x3 := x20.2.2.2) hre20
      simp only [inK] at q20_0
      simp only [inK] at q20_1
      have q20_r2 := Rd.room q20_2
      simp only [inK] at q20_3
      refine VO.y rfl (.ixI k rfl rfl tsl60 rfl bd) ?_
      refine VO.y rfl (.ldA 117 rfl tk107 rfl hce20) ?_
      refine VO.alloc 122 rfl tz107 (fun g21 => ?_)
      refine VO.store (k := 4) (c' := [Value.int .i64 (x20.1), Value.int .i64 (x20.2.1), Value.slice q20_A2 (x20.2.2.1.length) (q20_c2), Value.int .i64 (x20.2.2.2)]) 122 rfl rfl (.inl tk107) rfl rfl rfl rfl rfl ?_
      refine VO.k9 0 1 4 5 7 18 19 20 21 ?_
      refine VC.rs ?_
      refine VO.y rfl (.fa rfl tst107 rfl) ?_
      refine VO.y rfl (.ld1 122 rfl tk3 rfl (cellsAt_one rfl rfl)) ?_
      refine VO.mv ?_
      refine VO.y rfl (.eql rfl rfl) ?_
      refine VO.kp [122, 118, 113, 114, 115, 116, 117, 110, 0] [(122, mone g21 (.cells [Value.int .i64 (x20.1), Value.int .i64 (x20.2.1), Value.slice q20_A2 (x20.2.2.1.length) (q20_c2), Value.int .i64 (x20.2.2.2)].toArray 107 (0, 0))), (118, mone g0 (.cells [Value.bool d0.1, Value.bool d0.2.1, Value.bool d0.2.2.1, Value.int .i64 (d0.2.2.2.1), Value.int .i64 (d0.2.2.2.2.1), Value.slice q12_A5 (d0.2.2.2.2.2.1.1.length) (q12_c5), Value.slice q12_A6 (d0.2.2.2.2.2.1.2.1.length) (q12_c6), Value.slice q12_A7 (d0.2.2.2.2.2.1.2.2.1.length) (q12_c7), Value.slice q12_A8 (d0.2.2.2.2.2.1.2.2.2.length) (q12_c8), Value.slice (some ⟨gg20, oo20, none⟩) (d0.2.2.2.2.2.2.length) (q12_c9)].toArray q12_E (0, 0))), (113, q12_n5), (114, q12_n6), (115, q12_n7), (116, q12_n8), (117, q12_n9), (110, b_m), (0, mout (wm W) (m0))] ?_
      refine VO.k10 0 1 4 5 7 18 19 20 21 27 ?_
      refine VC.cond rfl (fun hc23 => ?_) (fun hc23 => ?_)
      · -- 0JTT
        refine VC.reg ?_
        refine VO.mv ?_
        refine VO.y rfl (.ldA 122 rfl tk107 rfl (cellsAt_one rfl rfl)) ?_
        refine VO.call 110 rfl fnOk71 rfl rfl (fun W hW => dDone_ok W (hW.at (i := 110) rfl) (OwnL.ow h_b rfl) (Rd.mono hre20 (hW.out (i := 110) (j := 117) rfl rfl)) (by exact held_cut hg hb ‹d0.2.2.2.2.2.2[k]? = some _› e2 ‹_ = d1›) (by (have h_ := held_room hb ‹d0.2.2.2.2.2.2[k]? = some _›; simp only [sizeQ] at h_; omega))) (fun v24 m24 hv24 => ?_)
        obtain ⟨s24_0, rfl, f24_0⟩ := hv24
        obtain ⟨A24_0, c24_0, eq24_0, l24_0, k24_0⟩ := f24_0.slice
        subst eq24_0
        simp only [maxLen] at k24_0
        refine VO.as ?_
        refine VO.k10 0 1 4 5 7 18 19 20 21 27 ?_
        refine outBN ?_
        refine outN ?_
        refine VC.reg ?_
        refine VO.y rfl (.add (c := ((k + 1 : Nat) : Int)) rfl rfl (by omega) ⟨bd, bd⟩) ?_
        refine VO.mv ?_
        refine VO.k10 0 1 4 5 7 18 19 20 21 27 ?_
        exact outN ⟨⟨k + 1, doneB b x20, A24_0, c24_0, m24⟩, ⟨by omega, by first | exact held_yes hb ‹d0.2.2.2.2.2.2[k]? = some _› ‹_ = d1› | exact held_no hb ‹d0.2.2.2.2.2.2[k]? = some _› ‹¬ _ = d1›, (Ow.ownl f24_0 rfl mnil)⟩, bd, ⟨⟨rfl, rfl, rfl, rfl, rfl, rfl, rfl, trivial⟩, fun _ h => Inv.sub h [118, 113, 114, 115, 116, 117, 110, 0]⟩⟩
      · -- 0JTF
        refine VC.skip ?_
        refine outBN ?_
        refine outN ?_
        refine VC.reg ?_
        refine VO.y rfl (.add (c := ((k + 1 : Nat) : Int)) rfl rfl (by omega) ⟨bd, bd⟩) ?_
        refine VO.mv ?_
        refine VO.k10 0 1 4 5 7 18 19 20 21 27 ?_
        exact outN ⟨⟨k + 1, b, b_A, b_c, b_m⟩, ⟨by omega, by first | exact held_yes hb ‹d0.2.2.2.2.2.2[k]? = some _› ‹_ = d1› | exact held_no hb ‹d0.2.2.2.2.2.2[k]? = some _› ‹¬ _ = d1›, h_b⟩, bd, ⟨⟨rfl, rfl, rfl, rfl, rfl, rfl, rfl, trivial⟩, fun _ h => Inv.sub h [118, 113, 114, 115, 116, 117, 110, 0]⟩⟩
    · -- 0JF
      refine VC.exit ?_
      refine outE ?_
      refine outE ?_
      refine outBB ?_
      refine outN ?_
      refine VC.rs ?_
      refine VO.mv ?_
      refine VO.as ?_
      refine VO.k8 0 1 4 5 18 19 20 21 ?_
      refine VC.ret ?_
      refine ⟨_, _, res_run (rs := [.tmp 4]) rfl (.tmp rfl .nil), fun W_ hI => out_of (l := [b_m, mone g0 (.cells [Value.bool d0.1, Value.bool d0.2.1, Value.bool d0.2.2.1, Value.int .i64 (d0.2.2.2.1), Value.int .i64 (d0.2.2.2.2.1), Value.slice q12_A5 (d0.2.2.2.2.2.1.1.length) (q12_c5), Value.slice q12_A6 (d0.2.2.2.2.2.1.2.1.length) (q12_c6), Value.slice q12_A7 (d0.2.2.2.2.2.1.2.2.1.length) (q12_c7), Value.slice q12_A8 (d0.2.2.2.2.2.1.2.2.2.length) (q12_c8), Value.slice q12_A9 (d0.2.2.2.2.2.2.length) (q12_c9)].toArray q12_E (0, 0)), q12_n5, q12_n6, q12_n7, q12_n8, q12_n9]) hI [110, 118, 113, 114, 115, 116, 117] rfl rfl (mle_refl _) (fun hS_ => ?_)⟩
      dsimp only [packV]
      have he0 : (heldB d0.2.2.2.2.2.1 d0.2.2.2.2.2.2 d1 : Ty.Den (.sl .byte)) = b := by first | rfl | (rw [hb, List.take_of_length_le (by omega)])
      have hm0_ : (d0 : DdiskDisk) = d0 := by first | rfl | (rw [hb, List.take_of_length_le (by omega)])
      refine ⟨Value.slice b_A (b.length) (b_c), muns [b_m], muns [mone g0 (.cells [Value.bool d0.1, Value.bool d0.2.1, Value.bool d0.2.2.1, Value.int .i64 (d0.2.2.2.1), Value.int .i64 (d0.2.2.2.2.1), Value.slice q12_A5 (d0.2.2.2.2.2.1.1.length) (q12_c5), Value.slice q12_A6 (d0.2.2.2.2.2.1.2.1.length) (q12_c6), Value.slice q12_A7 (d0.2.2.2.2.2.1.2.2.1.length) (q12_c7), Value.slice q12_A8 (d0.2.2.2.2.2.1.2.2.2.length) (q12_c8), Value.slice q12_A9 (d0.2.2.2.2.2.2.length) (q12_c9)].toArray q12_E (0, 0)), q12_n5, q12_n6, q12_n7, q12_n8, q12_n9], ?_, ?_, ?_, ?_⟩
      rotate_left
      · exact Seps.grp (ls := [[b_m], [mone g0 (.cells [Value.bool d0.1, Value.bool d0.2.1, Value.bool d0.2.2.1, Value.int .i64 (d0.2.2.2.1), Value.int .i64 (d0.2.2.2.2.1), Value.slice q12_A5 (d0.2.2.2.2.2.1.1.length) (q12_c5), Value.slice q12_A6 (d0.2.2.2.2.2.1.2.1.length) (q12_c6), Value.slice q12_A7 (d0.2.2.2.2.2.1.2.2.1.length) (q12_c7), Value.slice q12_A8 (d0.2.2.2.2.2.1.2.2.2.length) (q12_c8), Value.slice q12_A9 (d0.2.2.2.2.2.2.length) (q12_c9)].toArray q12_E (0, 0)), q12_n5, q12_n6, q12_n7, q12_n8, q12_n9]]) hS_
      · rw [he0]; exact (Ow.up (OwnL.ow h_b rfl) ((Seps.self hS_ (List.Sublist.cons_cons _ (List.Sublist.cons _ (List.Sublist.cons _ (List.Sublist.cons _ (List.Sublist.cons _ (List.Sublist.cons _ (List.Sublist.cons _ List.Sublist.slnil)))))))).1 _ (.head _)))
      · rw [hm0_]; exact (show Ow (.ptr TdiskDisk) _ _ (_, d0) from (mkP_diskDisk d0.1 d0.2.1 d0.2.2.1 d0.2.2.2.1 d0.2.2.2.2.1 d0.2.2.2.2.2.1.1 d0.2.2.2.2.2.1.2.1 d0.2.2.2.2.2.1.2.2.1 d0.2.2.2.2.2.1.2.2.2 d0.2.2.2.2.2.2 (Seps.self hS_ (List.Sublist.cons _ (List.Sublist.cons_cons _ (List.Sublist.cons_cons _ (List.Sublist.cons_cons _ (List.Sublist.cons_cons _ (List.Sublist.cons_cons _ (List.Sublist.cons_cons _ List.Sublist.slnil)))))))) bdk bdk (OwnL.ow (Ow.ownl q12_5 rfl mnil) rfl) (OwnL.ow (Ow.ownl q12_6 rfl mnil) rfl) (OwnL.ow (Ow.ownl q12_7 rfl mnil) rfl) (OwnL.ow (Ow.ownl q12_8 rfl mnil) rfl) q12_9))
      all_goals (first | rfl | (simp [*]; done))
  · -- A
    intro hJ1
    refine VC.reg ?_
    refine VO.mv ?_
    refine VO.mv ?_
    refine VO.y rfl (.nilp rfl) ?_
    refine VO.y rfl (.fa rfl tst62 rfl) ?_
    rcases (show d1 = (0 : Int) ∨ d1 = (1 : Int) ∨ d1 = (2 : Int) ∨ d1 = (3 : Int) from by first | omega | (simp only [List.length_append, List.length_nil, List.length_cons, List.length_take, List.length_drop] at *; omega)) with hi25 | hi25 | hi25 | hi25
    · -- A0
      refine VO.y rfl (.ixa (i := 0) (o := 5) rfl rfl tar59 hi25 rfl rfl) ?_
      obtain ⟨q26_E, q26_A5, q26_c5, q26_A6, q26_c6, q26_A7, q26_c7, q26_A8, q26_c8, q26_A9, q26_c9, q26_n5, q26_n6, q26_n7, q26_n8, q26_n9, _, q26_S, q26_3, q26_4, q26_5, q26_6, q26_7, q26_8, q26_9⟩ := openP_diskDisk (x0 := d0.1) (x1 := d0.2.1) (x2 := d0.2.2.1) (x3 := d0.2.2.2.1) (x4 := d0.2.2.2.2.1) (x5 := d0.2.2.2.2.2.1.1) (x6 := d0.2.2.2.2.2.1.2.1) (x7 := d0.2.2.2.2.2.1.2.2.1) (x8 := d0.2.2.2.2.2.1.2.2.2) (x9 := d0.2.2.2.2.2.2) h0
      simp only [inK] at q26_3
      simp only [inK] at q26_4
      have q26_r5 := q26_5.rm
      have q26_r6 := q26_6.rm
      have q26_r7 := q26_7.rm
      have q26_r8 := q26_8.rm
      have q26_r9 := q26_9.rm
      refine VO.inv _ (fun _ h => h.parts (i := 1) rfl q26_S [132, 127, 128, 129, 130, 131]) ?_
      refine VO.y rfl (.ld1 132 rfl tk38 rfl (cellsAt_one rfl rfl)) ?_
      refine VO.inv _ (fun _ h => h.nilc 134) ?_
      obtain ⟨mo33, cs33, hM33, hA33, hC33⟩ := (OwnL.nil .byte mnil mnil)
      obtain ⟨all33, hS33, hR33⟩ := Rd.srcI (P := Try.prog) ((OwnL.rd (Ow.ownl q26_5 rfl mnil) (mle_refl _) (mle_nil _))) Try.underlying38
      refine VO.app 134 rfl rfl rfl tsl38 tz5 rfl rfl hM33 hA33 (hS33 _ 127 rfl) hR33.nice bdm bd (by decide) (fun v33 m33 hN33 => ?_)
      have ho33 : OwnL .byte m33 mnil v33 (d0.2.2.2.2.2.1.1) := OwnL.more hC33 hN33 (All2c.mono hR33 fun _ _ h => Rd.flat rfl h _)
      obtain ⟨A33, c33, rfl, l33, k33⟩ := ho33.slice
      simp only [maxLen] at k33
      refine VO.as ?_
      refine VO.clsP 135 [132, 127, 128, 129, 130, 131] rfl (fun hg35 => (show Ow (.ptr TdiskDisk) _ _ (_, d0) from (mkP_diskDisk d0.1 d0.2.1 d0.2.2.1 d0.2.2.2.1 d0.2.2.2.2.1 d0.2.2.2.2.2.1.1 d0.2.2.2.2.2.1.2.1 d0.2.2.2.2.2.1.2.2.1 d0.2.2.2.2.2.1.2.2.2 d0.2.2.2.2.2.2 hg35 bdk bdk (OwnL.ow (Ow.ownl q26_5 rfl mnil) rfl) (OwnL.ow (Ow.ownl q26_6 rfl mnil) rfl) (OwnL.ow (Ow.ownl q26_7 rfl mnil) rfl) (OwnL.ow (Ow.ownl q26_8 rfl mnil) rfl) q26_9))) (fun mc35 ho35 => ?_)
      refine VO.k4 0 1 4 5 ?_
      exact outN (hJ1 ⟨d0.2.2.2.2.2.1.1, A33, c33, m33, mc35⟩ _ _ ⟨by first | exact (getF0 ‹d1 = (0 : Int)›).symm | exact (getF1 ‹d1 = (1 : Int)›).symm | exact (getF2 ‹d1 = (2 : Int)›).symm | exact (getF3 ‹d1 = (3 : Int)›).symm, ho33, ho35⟩ ⟨⟨rfl, rfl, rfl, rfl, trivial⟩, fun _ h => Inv.sub (Inv.num (Inv.num h 134 110 rfl) 135 111 rfl) [111, 110, 0]⟩)
    · -- A1
      refine VO.y rfl (.ixa (i := 1) (o := 6) rfl rfl tar59 hi25 rfl rfl) ?_
      obtain ⟨q36_E, q36_A5, q36_c5, q36_A6, q36_c6, q36_A7, q36_c7, q36_A8, q36_c8, q36_A9, q36_c9, q36_n5, q36_n6, q36_n7, q36_n8, q36_n9, _, q36_S, q36_3, q36_4, q36_5, q36_6, q36_7, q36_8, q36_9⟩ := openP_diskDisk (x0 := d0.1) (x1 := d0.2.1) (x2 := d0.2.2.1) (x3 := d0.2.2.2.1) (x4 := d0.2.2.2.2.1) (x5 := d0.2.2.2.2.2.1.1) (x6 := d0.2.2.2.2.2.1.2.1) (x7 := d0.2.2.2.2.2.1.2.2.1) (x8 := d0.2.2.2.2.2.1.2.2.2) (x9 := d0.2.2.2.2.2.2) h0
      simp only [inK] at q36_3
      simp only [inK] at q36_4
      have q36_r5 := q36_5.rm
      have q36_r6 := q36_6.rm
      have q36_r7 := q36_7.rm
      have q36_r8 := q36_8.rm
      have q36_r9 := q36_9.rm
      refine VO.inv _ (fun _ h => h.parts (i := 1) rfl q36_S [142, 137, 138, 139, 140, 141]) ?_
      refine VO.y rfl (.ld1 142 rfl tk38 rfl (cellsAt_one rfl rfl)) ?_
      refine VO.inv _ (fun _ h => h.nilc 144) ?_
      obtain ⟨mo43, cs43, hM43, hA43, hC43⟩ := (OwnL.nil .byte mnil mnil)
      obtain ⟨all43, hS43, hR43⟩ := Rd.srcI (P := Try.prog) ((OwnL.rd (Ow.ownl q36_6 rfl mnil) (mle_refl _) (mle_nil _))) Try.underlying38
      refine VO.app 144 rfl rfl rfl tsl38 tz5 rfl rfl hM43 hA43 (hS43 _ 138 rfl) hR43.nice bdm bd (by decide) (fun v43 m43 hN43 => ?_)
      have ho43 : OwnL .byte m43 mnil v43 (d0.2.2.2.2.2.1.2.1) := OwnL.more hC43 hN43 (All2c.mono hR43 fun _ _ h => Rd.flat rfl h _)
      obtain ⟨A43, c43, rfl, l43, k43⟩ := ho43.slice
      simp only [maxLen] at k43
      refine VO.as ?_
      refine VO.clsP 145 [142, 137, 138, 139, 140, 141] rfl (fun hg45 => (show Ow (.ptr TdiskDisk) _ _ (_, d0) from (mkP_diskDisk d0.1 d0.2.1 d0.2.2.1 d0.2.2.2.1 d0.2.2.2.2.1 d0.2.2.2.2.2.1.1 d0.2.2.2.2.2.1.2.1 d0.2.2.2.2.2.1.2.2.1 d0.2.2.2.2.2.1.2.2.2 d0.2.2.2.2.2.2 hg45 bdk bdk (OwnL.ow (Ow.ownl q36_5 rfl mnil) rfl) (OwnL.ow (Ow.ownl q36_6 rfl mnil) rfl) (OwnL.ow (Ow.ownl q36_7 rfl mnil) rfl) (OwnL.ow (Ow.ownl q36_8 rfl mnil) rfl) q36_9))) (fun mc45 ho45 => ?_)
      refine VO.k4 0 1 4 5 ?_
      exact outN (hJ1 ⟨d0.2.2.2.2.2.1.2.1, A43, c43, m43, mc45⟩ _ _ ⟨by first | exact (getF0 ‹d1 = (0 : Int)›).symm | exact (getF1 ‹d1 = (1 : Int)›).symm | exact (getF2 ‹d1 = (2 : Int)›).symm | exact (getF3 ‹d1 = (3 : Int)›).symm, ho43, ho45⟩ ⟨⟨rfl, rfl, rfl, rfl, trivial⟩, fun _ h => Inv.sub (Inv.num (Inv.num h 144 110 rfl) 145 111 rfl) [111, 110, 0]⟩)
    · -- A2
      refine VO.y rfl (.ixa (i := 2) (o := 7) rfl rfl tar59 hi25 rfl rfl) ?_
      obtain ⟨q46_E, q46_A5, q46_c5, q46_A6, q46_c6, q46_A7, q46_c7, q46_A8, q46_c8, q46_A9, q46_c9, q46_n5, q46_n6, q46_n7, q46_n8, q46_n9, _, q46_S, q46_3, q46_4, q46_5, q46_6, q46_7, q46_8, q46_9⟩ := openP_diskDisk (x0 := d0.1) (x1 := d0.2.1) (x2 := d0.2.2.1) (x3 := d0.2.2.2.1) (x4 := d0.2.2.2.2.1) (x5 := d0.2.2.2.2.2.1.1) (x6 := d0.2.2.2.2.2.1.2.1) (x7 := d0.2.2.2.2.2.1.2.2.1) (x8 := d0.2.2.2.2.2.1.2.2.2) (x9 := d0.2.2.2.2.2.2) h0
      simp only [inK] at q46_3
      simp only [inK] at q46_4
      have q46_r5 := q46_5.rm
      have q46_r6 := q46_6.rm
      have q46_r7 := q46_7.rm
      have q46_r8 := q46_8.rm
      have q46_r9 := q46_9.rm
      refine VO.inv _ (fun _ h => h.parts (i := 1) rfl q46_S [152, 147, 148, 149, 150, 151]) ?_
      refine VO.y rfl (.ld1 152 rfl tk38 rfl (cellsAt_one rfl rfl)) ?_
      refine VO.inv _ (fun _ h => h.nilc 154) ?_
      obtain ⟨mo53, cs53, hM53, hA53, hC53⟩ := (OwnL.nil .byte mnil mnil)
      obtain ⟨all53, hS53, hR53⟩ := Rd.srcI (P := Try.prog) ((OwnL.rd (Ow.ownl q46_7 rfl mnil) (mle_refl _) (mle_nil _))) Try.underlying38
      refine VO.app 154 rfl rfl rfl tsl38 tz5 rfl rfl hM53 hA53 (hS53 _ 149 rfl) hR53.nice bdm bd (by decide) (fun v53 m53 hN53 => ?_)
      have ho53 : OwnL .byte m53 mnil v53 (d0.2.2.2.2.2.1.2.2.1) := OwnL.more hC53 hN53 (All2c.mono hR53 fun _ _ h => Rd.flat rfl h _)
      obtain ⟨A53, c53, rfl, l53, k53⟩ := ho53.slice
      simp only [maxLen] at k53
      refine VO.as ?_
      refine VO.clsP 155 [152, 147, 148, 149, 150, 151] rfl (fun hg55 => (show Ow (.ptr TdiskDisk) _ _ (_, d0) from (mkP_diskDisk d0.1 d0.2.1 d0.2.2.1 d0.2.2.2.1 d0.2.2.2.2.1 d0.2.2.2.2.2.1.1 d0.2.2.2.2.2.1.2.1 d0.2.2.2.2.2.1.2.2.1 d0.2.2.2.2.2.1.2.2.2 d0.2.2.2.2.2.2 hg55 bdk bdk (OwnL.ow (Ow.ownl q46_5 rfl mnil) rfl) (OwnL.ow (Ow.ownl q46_6 rfl mnil) rfl) (OwnL.ow (Ow.ownl q46_7 rfl mnil) rfl) (OwnL.ow (Ow.ownl q46_8 rfl mnil) rfl) q46_9))) (fun mc55 ho55 => ?_)
      refine VO.k4 0 1 4 5 ?_
      exact outN (hJ1 ⟨d0.2.2.2.2.2.1.2.2.1, A53, c53, m53, mc55⟩ _ _ ⟨by first | exact (getF0 ‹d1 = (0 : Int)›).symm | exact (getF1 ‹d1 = (1 : Int)›).symm | exact (getF2 ‹d1 = (2 : Int)›).symm | exact (getF3 ‹d1 = (3 : Int)›).symm, ho53, ho55⟩ ⟨⟨rfl, rfl, rfl, rfl, trivial⟩, fun _ h => Inv.sub (Inv.num (Inv.num h 154 110 rfl) 155 111 rfl) [111, 110, 0]⟩)
    · -- A3
      refine VO.y rfl (.ixa (i := 3) (o := 8) rfl rfl tar59 hi25 rfl rfl) ?_
      obtain ⟨q56_E, q56_A5, q56_c5, q56_A6, q56_c6, q56_A7, q56_c7, q56_A8, q56_c8, q56_A9, q56_c9, q56_n5, q56_n6, q56_n7, q56_n8, q56_n9, _, q56_S, q56_3, q56_4, q56_5, q56_6, q56_7, q56_8, q56_9⟩ := openP_diskDisk (x0 := d0.1) (x1 := d0.2.1) (x2 := d0.2.2.1) (x3 := d0.2.2.2.1) (x4 := d0.2.2.2.2.1) (x5 := d0.2.2.2.2.2.1.1) (x6 := d0.2.2.2.2.2.1.2.1) (x7 := d0.2.2.2.2.2.1.2.2.1) (x8 := d0.2.2.2.2.2.1.2.2.2) (x9 := d0.2.2.2.2.2.2) h0
      simp only [inK] at q56_3
      simp only [inK] at q56_4
      have q56_r5 := q56_5.rm
      have q56_r6 := q56_6.rm
      have q56_r7 := q56_7.rm
      have q56_r8 := q56_8.rm
      have q56_r9 := q56_9.rm
      refine VO.inv _ (fun _ h => h.parts (i := 1) rfl q56_S [162, 157, 158, 159, 160, 161]) ?_
      refine VO.y rfl (.ld1 162 rfl tk38 rfl (cellsAt_one rfl rfl)) ?_
      refine VO.inv _ (fun _ h => h.nilc 164) ?_
      obtain ⟨mo63, cs63, hM63, hA63, hC63⟩ := (OwnL.nil .byte mnil mnil)
      obtain ⟨all63, hS63, hR63⟩ := Rd.srcI (P := Try.prog) ((OwnL.rd (Ow.ownl q56_8 rfl mnil) (mle_refl _) (mle_nil _))) Try.underlying38
      refine VO.app 164 rfl rfl rfl tsl38 tz5 rfl rfl hM63 hA63 (hS63 _ 160 rfl) hR63.nice bdm bd (by decide) (fun v63 m63 hN63 => ?_)
      have ho63 : OwnL .byte m63 mnil v63 (d0.2.2.2.2.2.1.2.2.2) := OwnL.more hC63 hN63 (All2c.mono hR63 fun _ _ h => Rd.flat rfl h _)
      obtain ⟨A63, c63, rfl, l63, k63⟩ := ho63.slice
      simp only [maxLen] at k63
      refine VO.as ?_
      refine VO.clsP 165 [162, 157, 158, 159, 160, 161] rfl (fun hg65 => (show Ow (.ptr TdiskDisk) _ _ (_, d0) from (mkP_diskDisk d0.1 d0.2.1 d0.2.2.1 d0.2.2.2.1 d0.2.2.2.2.1 d0.2.2.2.2.2.1.1 d0.2.2.2.2.2.1.2.1 d0.2.2.2.2.2.1.2.2.1 d0.2.2.2.2.2.1.2.2.2 d0.2.2.2.2.2.2 hg65 bdk bdk (OwnL.ow (Ow.ownl q56_5 rfl mnil) rfl) (OwnL.ow (Ow.ownl q56_6 rfl mnil) rfl) (OwnL.ow (Ow.ownl q56_7 rfl mnil) rfl) (OwnL.ow (Ow.ownl q56_8 rfl mnil) rfl) q56_9))) (fun mc65 ho65 => ?_)
      refine VO.k4 0 1 4 5 ?_
      exact outN (hJ1 ⟨d0.2.2.2.2.2.1.2.2.2, A63, c63, m63, mc65⟩ _ _ ⟨by first | exact (getF0 ‹d1 = (0 : Int)›).symm | exact (getF1 ‹d1 = (1 : Int)›).symm | exact (getF2 ‹d1 = (2 : Int)›).symm | exact (getF3 ‹d1 = (3 : Int)›).symm, ho63, ho65⟩ ⟨⟨rfl, rfl, rfl, rfl, trivial⟩, fun _ h => Inv.sub (Inv.num (Inv.num h 164 110 rfl) 165 111 rfl) [111, 110, 0]⟩)
theorem fin0_dSettle_ok {P : Prop} (h : P := by first | (have h_ := play_room hb (get_take ‹(d0.2.2.2.2.2.2.take d1.toNat)[k]? = some _›); rw [getF0 ‹_ = (0 : Int)›] at h_; simp only [sizeQ] at h_; omega) | (have h_ := play_room hb (get_take ‹(d0.2.2.2.2.2.2.take d1.toNat)[k]? = some _›); rw [getF1 ‹_ = (1 : Int)›] at h_; simp only [sizeQ] at h_; omega) | (have h_ := play_room hb (get_take ‹(d0.2.2.2.2.2.2.take d1.toNat)[k]? = some _›); rw [getF2 ‹_ = (2 : Int)›] at h_; simp only [sizeQ] at h_; omega) | (have h_ := play_room hb (get_take ‹(d0.2.2.2.2.2.2.take d1.toNat)[k]? = some _›); rw [getF3 ‹_ = (3 : Int)›] at h_; simp only [sizeQ] at h_; omega)) : P := h
theorem fin1_dSettle_ok {P : Prop} (h : P := by first | (have h_ := (play_cut hg hb (get_take ‹(d0.2.2.2.2.2.2.take d1.toNat)[k]? = some _›)).2; rw [getF0 ‹_ = (0 : Int)›] at h_; exact h_) | (have h_ := (play_cut hg hb (get_take ‹(d0.2.2.2.2.2.2.take d1.toNat)[k]? = some _›)).2; rw [getF1 ‹_ = (1 : Int)›] at h_; exact h_) | (have h_ := (play_cut hg hb (get_take ‹(d0.2.2.2.2.2.2.take d1.toNat)[k]? = some _›)).2; rw [getF2 ‹_ = (2 : Int)›] at h_; exact h_) | (have h_ := (play_cut hg hb (get_take ‹(d0.2.2.2.2.2.2.take d1.toNat)[k]? = some _›)).2; rw [getF3 ‹_ = (3 : Int)›] at h_; exact h_)) : P := h
theorem fin2_dSettle_ok {P : Prop} (h : P := by first | omega | (simp only [List.length_append, List.length_nil, List.length_cons, List.length_take, List.length_drop] at *; omega) | (have h_ := (play_cut hg hb (get_take ‹(d0.2.2.2.2.2.2.take d1.toNat)[k]? = some _›)).1; simp only [inF] at h_; omega)) : P := h
theorem dSettle_ok (W : World) {m0 : Mem} (hm : mle (m0) (wm W)) {g0 : Nat} {d0 : DdiskDisk} (h0 : Ow (.ptr TdiskDisk) m0 [.pointer (some ⟨g0, 0, none⟩)] (g0, d0)) (d1 : Int) (h1 : inK .i64 d1) (e0 : okD d0) (e1 : wD d0 ≤ 2*1000000000000) (e2 : 0 ≤ d1 ∧ d1 ≤ d0.2.2.2.2.2.2.length) : CallR Try.prog 70 [.pointer (some ⟨g0, 0, none⟩), .int .i64 d1] W (m0) (fun v m' => v = .tuple #[] ∧ Ow (.ptr TdiskDisk) m' [.pointer (some ⟨g0, 0, none⟩)] (g0, settleD d0 d1.toNat)) := by
  obtain ⟨hg, hfu, hst⟩ := e0; simp only [wD, sizeQ] at e1
  have h1' := h1; simp only [inK] at h1'
  refine CallR.ofB (n := 42) hm Try.func70 rfl rfl rfl ?_
  refine VC.seq ?_
  refine VC.rs ?_
  refine VO.mv ?_
  refine VO.y rfl (.nilp rfl) ?_
  refine VO.y rfl (.fa rfl tst62 rfl) ?_
  obtain ⟨q1_E, q1_A5, q1_c5, q1_A6, q1_c6, q1_A7, q1_c7, q1_A8, q1_c8, q1_A9, q1_c9, q1_n5, q1_n6, q1_n7, q1_n8, q1_n9, _, q1_S, q1_3, q1_4, q1_5, q1_6, q1_7, q1_8, q1_9⟩ := openP_diskDisk (x0 := d0.1) (x1 := d0.2.1) (x2 := d0.2.2.1) (x3 := d0.2.2.2.1) (x4 := d0.2.2.2.2.1) (x5 := d0.2.2.2.2.2.1.1) (x6 := d0.2.2.2.2.2.1.2.1) (x7 := d0.2.2.2.2.2.1.2.2.1) (x8 := d0.2.2.2.2.2.1.2.2.2) (x9 := d0.2.2.2.2.2.2) h0
  simp only [inK] at q1_3
  simp only [inK] at q1_4
  have q1_r5 := q1_5.rm
  have q1_r6 := q1_6.rm
  have q1_r7 := q1_7.rm
  have q1_r8 := q1_8.rm
  have q1_r9 := q1_9.rm
  refine VO.inv _ (fun _ h => h.parts (i := 1) rfl q1_S [107, 102, 103, 104, 105, 106]) ?_
  refine VO.y rfl (.ld1 107 rfl tk60 rfl (cellsAt_one rfl rfl)) ?_
  refine VO.mv ?_
  have hs8 := (Ow.rd q1_9 (mle_refl _)).pre (j := ((d1).toNat)) (by exact fin2_dSettle_ok)
  refine VO.y rfl (.slHI ((d1).toNat) rfl rfl tsl60 (by exact fin2_dSettle_ok) (by exact fin2_dSettle_ok)) ?_
  refine VO.y rfl (.lenS rfl tsl60) ?_
  refine VO.mv ?_
  refine VO.k5 0 1 11 12 13 ?_
  refine VC.block ?_
  refine VC.loop (G := Nat × (List UInt8) × (Option Addr) × Nat × Mem × (List UInt8) × (Option Addr) × Nat × Mem × (List UInt8) × (Option Addr) × Nat × Mem × (List UInt8) × (Option Addr) × Nat × Mem) (fun g => [(13, Value.int .i64 ((((g.1) : Nat) : Int))), (0, Value.pointer (some ⟨g0, 0, none⟩)), (1, Value.int .i64 (d1)), (11, Value.slice q1_A9 ((d1).toNat) (q1_c9)), (12, Value.int .i64 ((((d1).toNat : Nat) : Int)))]) (fun g => [(107, mone g0 (.cells [Value.bool d0.1, Value.bool d0.2.1, Value.bool d0.2.2.1, Value.int .i64 (d0.2.2.2.1), Value.int .i64 (d0.2.2.2.2.1), Value.slice (g.2.2.1) ((g.2.1).length) ((g.2.2.2.1)), Value.slice (g.2.2.2.2.2.2.1) ((g.2.2.2.2.2.1).length) ((g.2.2.2.2.2.2.2.1)), Value.slice (g.2.2.2.2.2.2.2.2.2.2.1) ((g.2.2.2.2.2.2.2.2.2.1).length) ((g.2.2.2.2.2.2.2.2.2.2.2.1)), Value.slice (g.2.2.2.2.2.2.2.2.2.2.2.2.2.2.1) ((g.2.2.2.2.2.2.2.2.2.2.2.2.2.1).length) ((g.2.2.2.2.2.2.2.2.2.2.2.2.2.2.2.1)), Value.slice q1_A9 (d0.2.2.2.2.2.2.length) (q1_c9)].toArray q1_E (0, 0))), (102, (g.2.2.2.2.1)), (103, (g.2.2.2.2.2.2.2.2.1)), (104, (g.2.2.2.2.2.2.2.2.2.2.2.2.1)), (105, (g.2.2.2.2.2.2.2.2.2.2.2.2.2.2.2.2)), (106, q1_n9), (0, mout (wm W) (m0))]) (fun g => ((g.1) ≤ d1.toNat) ∧ (((g.2.1), (g.2.2.2.2.2.1), (g.2.2.2.2.2.2.2.2.2.1), (g.2.2.2.2.2.2.2.2.2.2.2.2.2.1)) = play d0.2.2.2.2.2.1 (d0.2.2.2.2.2.2.take (g.1))) ∧ (OwnL .byte (g.2.2.2.2.1) mnil (.slice (g.2.2.1) (g.2.1).length (g.2.2.2.1)) (g.2.1)) ∧ (OwnL .byte (g.2.2.2.2.2.2.2.2.1) mnil (.slice (g.2.2.2.2.2.2.1) (g.2.2.2.2.2.1).length (g.2.2.2.2.2.2.2.1)) (g.2.2.2.2.2.1)) ∧ (OwnL .byte (g.2.2.2.2.2.2.2.2.2.2.2.2.1) mnil (.slice (g.2.2.2.2.2.2.2.2.2.2.1) (g.2.2.2.2.2.2.2.2.2.1).length (g.2.2.2.2.2.2.2.2.2.2.2.1)) (g.2.2.2.2.2.2.2.2.2.1)) ∧ (OwnL .byte (g.2.2.2.2.2.2.2.2.2.2.2.2.2.2.2.2) mnil (.slice (g.2.2.2.2.2.2.2.2.2.2.2.2.2.2.1) (g.2.2.2.2.2.2.2.2.2.2.2.2.2.1).length (g.2.2.2.2.2.2.2.2.2.2.2.2.2.2.2.1)) (g.2.2.2.2.2.2.2.2.2.2.2.2.2.1))) (fun g => d1.toNat - (g.1)) (0, d0.2.2.2.2.2.1.1, q1_A5, q1_c5, q1_n5, d0.2.2.2.2.2.1.2.1, q1_A6, q1_c6, q1_n6, d0.2.2.2.2.2.1.2.2.1, q1_A7, q1_c7, q1_n7, d0.2.2.2.2.2.1.2.2.2, q1_A8, q1_c8, q1_n8) (⟨by omega, by rfl, (Ow.ownl q1_5 rfl mnil), (Ow.ownl q1_6 rfl mnil), (Ow.ownl q1_7 rfl mnil), (Ow.ownl q1_8 rfl mnil)⟩) ⟨⟨rfl, rfl, rfl, rfl, rfl, trivial⟩, fun _ h => h.sub [107, 102, 103, 104, 105, 106, 0]⟩ ?_
  rintro ⟨k, b0, b0_A, b0_c, b0_m, b1, b1_A, b1_c, b1_m, b2, b2_A, b2_c, b2_m, b3, b3_A, b3_c, b3_m⟩ ⟨hk, hb, h_b0, h_b1, h_b2, h_b3⟩
  replace hk : k ≤ d1.toNat := hk
  replace hb : (b0, b1, b2, b3) = play d0.2.2.2.2.2.1 (d0.2.2.2.2.2.2.take k) := hb
  replace h_b0 : OwnL .byte b0_m mnil (.slice b0_A b0.length b0_c) b0 := h_b0
  replace h_b1 : OwnL .byte b1_m mnil (.slice b1_A b1.length b1_c) b1 := h_b1
  replace h_b2 : OwnL .byte b2_m mnil (.slice b2_A b2.length b2_c) b2 := h_b2
  replace h_b3 : OwnL .byte b3_m mnil (.slice b3_A b3.length b3_c) b3 := h_b3
  show VC _ _ _ _ _ [(13, Value.int .i64 (((k : Nat) : Int))), (0, Value.pointer (some ⟨g0, 0, none⟩)), (1, Value.int .i64 (d1)), (11, Value.slice q1_A9 ((d1).toNat) (q1_c9)), (12, Value.int .i64 ((((d1).toNat : Nat) : Int)))] [(107, mone g0 (.cells [Value.bool d0.1, Value.bool d0.2.1, Value.bool d0.2.2.1, Value.int .i64 (d0.2.2.2.1), Value.int .i64 (d0.2.2.2.2.1), Value.slice b0_A (b0.length) (b0_c), Value.slice b1_A (b1.length) (b1_c), Value.slice b2_A (b2.length) (b2_c), Value.slice b3_A (b3.length) (b3_c), Value.slice q1_A9 (d0.2.2.2.2.2.2.length) (q1_c9)].toArray q1_E (0, 0))), (102, b0_m), (103, b1_m), (104, b2_m), (105, b3_m), (106, q1_n9), (0, mout (wm W) (m0))]
  have l_b0 : b0.length ≤ b0_c := by obtain ⟨_, _, he, hl, _⟩ := h_b0.slice; simp only [Value.slice.injEq] at he; omega
  have k_b0 : b0_c ≤ 9223372036854775807 := by obtain ⟨_, _, he, _, hl⟩ := h_b0.slice; simp only [Value.slice.injEq, maxLen] at he hl; omega
  have l_b1 : b1.length ≤ b1_c := by obtain ⟨_, _, he, hl, _⟩ := h_b1.slice; simp only [Value.slice.injEq] at he; omega
  have k_b1 : b1_c ≤ 9223372036854775807 := by obtain ⟨_, _, he, _, hl⟩ := h_b1.slice; simp only [Value.slice.injEq, maxLen] at he hl; omega
  have l_b2 : b2.length ≤ b2_c := by obtain ⟨_, _, he, hl, _⟩ := h_b2.slice; simp only [Value.slice.injEq] at he; omega
  have k_b2 : b2_c ≤ 9223372036854775807 := by obtain ⟨_, _, he, _, hl⟩ := h_b2.slice; simp only [Value.slice.injEq, maxLen] at he hl; omega
  have l_b3 : b3.length ≤ b3_c := by obtain ⟨_, _, he, hl, _⟩ := h_b3.slice; simp only [Value.slice.injEq] at he; omega
  have k_b3 : b3_c ≤ 9223372036854775807 := by obtain ⟨_, _, he, _, hl⟩ := h_b3.slice; simp only [Value.slice.injEq, maxLen] at he hl; omega
  refine VC.rs ?_
  refine VO.y rfl (.lss rfl rfl) ?_
  refine VO.k6 0 1 11 12 13 14 ?_
  refine VC.seq ?_
  refine VC.cond rfl (fun hc9 => ?_) (fun hc9 => ?_)
  · -- T
    refine VC.skip ?_
    refine outN ?_
    refine VC.seq ?_
    refine VC.block ?_
    refine VC.rs ?_
    obtain ⟨x10, hx10⟩ : ∃ z_, ((d0.2.2.2.2.2.2).take ((d1).toNat))[k]? = some z_ := ⟨_, List.getElem?_eq_getElem (by exact fin2_dSettle_ok)⟩
    obtain ⟨gg10, oo10, ec10, ea10, hce10, hre10⟩ := (Ow.rd (q1_9.pre (j := ((d1).toNat)) (by exact fin2_dSettle_ok)) (mle_refl _)).elem hx10
    cases ea10
    obtain ⟨q10_A2, q10_c2, rfl, q10_0, q10_1, q10_2, q10_3⟩ := open_diskstep (x0 := x10.1) (x1 := x10.2.1) (x2 := x10.2.2.1) (x3 := x10.2.2.2) hre10
    simp only [inK] at q10_0
    simp only [inK] at q10_1
    have q10_r2 := Rd.room q10_2
    simp only [inK] at q10_3
    refine VO.y rfl (.ixI k rfl rfl tsl60 rfl (by exact fin2_dSettle_ok)) ?_
    refine VO.y rfl (.ldA 106 rfl tk107 rfl hce10) ?_
    refine VO.alloc 112 rfl tz107 (fun g11 => ?_)
    refine VO.store (k := 4) (c' := [Value.int .i64 (x10.1), Value.int .i64 (x10.2.1), Value.slice q10_A2 (x10.2.2.1.length) (q10_c2), Value.int .i64 (x10.2.2.2)]) 112 rfl rfl (.inl tk107) rfl rfl rfl rfl rfl ?_
    refine VO.kp [112, 107, 102, 103, 104, 105, 106, 0] [(112, mone g11 (.cells [Value.int .i64 (x10.1), Value.int .i64 (x10.2.1), Value.slice q10_A2 (x10.2.2.1.length) (q10_c2), Value.int .i64 (x10.2.2.2)].toArray 107 (0, 0))), (107, mone g0 (.cells [Value.bool d0.1, Value.bool d0.2.1, Value.bool d0.2.2.1, Value.int .i64 (d0.2.2.2.1), Value.int .i64 (d0.2.2.2.2.1), Value.slice b0_A (b0.length) (b0_c), Value.slice b1_A (b1.length) (b1_c), Value.slice b2_A (b2.length) (b2_c), Value.slice b3_A (b3.length) (b3_c), Value.slice (some ⟨gg10, oo10, none⟩) (d0.2.2.2.2.2.2.length) (q1_c9)].toArray q1_E (0, 0))), (102, b0_m), (103, b1_m), (104, b2_m), (105, b3_m), (106, q1_n9), (0, mout (wm W) (m0))] ?_
    refine VO.k7 0 1 5 11 12 13 14 ?_
    refine VC.regD _ 14 [(0, true), (1, true), (2, true), (3, true), (4, true), (5, true), (6, true), (7, true), (8, true), (9, true), (10, true), (12, true), (13, true), (11, false)] follows (by kernel_rfl) (fun _ h => h.sub [112, 107, 106, 0]) ?_
    refine VD.y rfl rfl (.inl rfl) (.mv rfl) ?_
    refine VD.y rfl rfl (.inl rfl) (.fa rfl tst107 rfl) ?_
    refine VD.y rfl rfl (.inl rfl) (.ld1 112 rfl tk3 rfl (cellsAt_one rfl rfl)) ?_
    refine VD.y rfl rfl (.inl rfl) (.mv rfl) ?_
    refine VD.y rfl rfl (.inl rfl) (.fa rfl tst107 rfl) ?_
    refine VD.y rfl rfl (.inl rfl) (.ld1 112 rfl tk3 rfl (cellsAt_one rfl rfl)) ?_
    refine VD.y rfl rfl (.inl rfl) (.nilp rfl) ?_
    refine VD.y rfl rfl (.inl rfl) (.fa rfl tst62 rfl) ?_
    rcases (show x10.2.1 = (0 : Int) ∨ x10.2.1 = (1 : Int) ∨ x10.2.1 = (2 : Int) ∨ x10.2.1 = (3 : Int) from by exact fin2_dSettle_ok) with hi13 | hi13 | hi13 | hi13
    · -- T0
      refine VD.y rfl rfl (.inl rfl) (.ixa (i := 0) (o := 5) rfl rfl tar59 hi13 rfl rfl) ?_
      refine VD.y rfl rfl (.inl rfl) (.ld1 107 rfl tk38 rfl (cellsAt_one rfl rfl)) ?_
      refine VD.y rfl rfl (.inl rfl) (.ldA 112 rfl tk107 rfl (cellsAt_one rfl rfl)) ?_
      refine VD.y rfl rfl (.inl rfl) (.nilp rfl) ?_
      refine VD.y rfl rfl (.inl rfl) (.fa rfl tst62 rfl) ?_
      refine VD.call 102 rfl rfl (.inl rfl) fnOk71 rfl rfl (fun _ _ h => h.sub [112, 107, 106, 0]) (fun W hW => dDone_ok W (hW.at (i := 102) rfl) (OwnL.ow h_b0 rfl) (Rd.mono hre10 (hW.out (i := 102) (j := 106) rfl rfl)) (by exact fin1_dSettle_ok) (by exact fin0_dSettle_ok)) (fun v14 m14 hv14 => ?_)
      obtain ⟨s14_0, rfl, f14_0⟩ := hv14
      obtain ⟨A14_0, c14_0, eq14_0, l14_0, k14_0⟩ := f14_0.slice
      subst eq14_0
      simp only [maxLen] at k14_0
      refine VD.nil rfl ?_ rfl
      refine VO.y rfl (.ixa (i := 0) (o := 5) rfl rfl tar59 hi13 rfl rfl) ?_
      refine VO.store (k := 1) 107 rfl rfl (.inr ⟨tk38, rfl⟩) rfl rfl rfl rfl rfl ?_
      refine VO.k7 0 1 5 11 12 13 14 ?_
      refine outBN ?_
      refine outN ?_
      refine VC.reg ?_
      refine VO.y rfl (.add (c := ((k + 1 : Nat) : Int)) rfl rfl (by omega) ⟨by exact fin2_dSettle_ok, by exact fin2_dSettle_ok⟩) ?_
      refine VO.mv ?_
      refine VO.k7 0 1 5 11 12 13 14 ?_
      exact outN ⟨⟨k + 1, doneB b0 x10, A14_0, c14_0, m14, b1, b1_A, b1_c, b1_m, b2, b2_A, b2_c, b2_m, b3, b3_A, b3_c, b3_m⟩, ⟨by omega, by first | (have h_ := play_next hb (get_take ‹(d0.2.2.2.2.2.2.take d1.toNat)[k]? = some _›); rw [stepQ, setQ0 ‹_ = (0 : Int)›, getF0 ‹_ = (0 : Int)›] at h_; exact h_) | (have h_ := play_next hb (get_take ‹(d0.2.2.2.2.2.2.take d1.toNat)[k]? = some _›); rw [stepQ, setQ1 ‹_ = (1 : Int)›, getF1 ‹_ = (1 : Int)›] at h_; exact h_) | (have h_ := play_next hb (get_take ‹(d0.2.2.2.2.2.2.take d1.toNat)[k]? = some _›); rw [stepQ, setQ2 ‹_ = (2 : Int)›, getF2 ‹_ = (2 : Int)›] at h_; exact h_) | (have h_ := play_next hb (get_take ‹(d0.2.2.2.2.2.2.take d1.toNat)[k]? = some _›); rw [stepQ, setQ3 ‹_ = (3 : Int)›, getF3 ‹_ = (3 : Int)›] at h_; exact h_), (Ow.ownl f14_0 rfl mnil), h_b1, h_b2, h_b3⟩, by exact fin2_dSettle_ok, ⟨⟨rfl, rfl, rfl, rfl, rfl, trivial⟩, fun _ h => Inv.sub h [107, 102, 103, 104, 105, 106, 0]⟩⟩
    · -- T1
      refine VD.y rfl rfl (.inl rfl) (.ixa (i := 1) (o := 6) rfl rfl tar59 hi13 rfl rfl) ?_
      refine VD.y rfl rfl (.inl rfl) (.ld1 107 rfl tk38 rfl (cellsAt_one rfl rfl)) ?_
      refine VD.y rfl rfl (.inl rfl) (.ldA 112 rfl tk107 rfl (cellsAt_one rfl rfl)) ?_
      refine VD.y rfl rfl (.inl rfl) (.nilp rfl) ?_
      refine VD.y rfl rfl (.inl rfl) (.fa rfl tst62 rfl) ?_
      refine VD.call 103 rfl rfl (.inl rfl) fnOk71 rfl rfl (fun _ _ h => h.sub [112, 107, 106, 0]) (fun W hW => dDone_ok W (hW.at (i := 103) rfl) (OwnL.ow h_b1 rfl) (Rd.mono hre10 (hW.out (i := 103) (j := 106) rfl rfl)) (by exact fin1_dSettle_ok) (by exact fin0_dSettle_ok)) (fun v15 m15 hv15 => ?_)
      obtain ⟨s15_0, rfl, f15_0⟩ := hv15
      obtain ⟨A15_0, c15_0, eq15_0, l15_0, k15_0⟩ := f15_0.slice
      subst eq15_0
      simp only [maxLen] at k15_0
      refine VD.nil rfl ?_ rfl
      refine VO.y rfl (.ixa (i := 1) (o := 6) rfl rfl tar59 hi13 rfl rfl) ?_
      refine VO.store (k := 1) 107 rfl rfl (.inr ⟨tk38, rfl⟩) rfl rfl rfl rfl rfl ?_
      refine VO.k7 0 1 5 11 12 13 14 ?_
      refine outBN ?_
      refine outN ?_
      refine VC.reg ?_
      refine VO.y rfl (.add (c := ((k + 1 : Nat) : Int)) rfl rfl (by omega) ⟨by exact fin2_dSettle_ok, by exact fin2_dSettle_ok⟩) ?_
      refine VO.mv ?_
      refine VO.k7 0 1 5 11 12 13 14 ?_
      exact outN ⟨⟨k + 1, b0, b0_A, b0_c, b0_m, doneB b1 x10, A15_0, c15_0, m15, b2, b2_A, b2_c, b2_m, b3, b3_A, b3_c, b3_m⟩, ⟨by omega, by first | (have h_ := play_next hb (get_take ‹(d0.2.2.2.2.2.2.take d1.toNat)[k]? = some _›); rw [stepQ, setQ0 ‹_ = (0 : Int)›, getF0 ‹_ = (0 : Int)›] at h_; exact h_) | (have h_ := play_next hb (get_take ‹(d0.2.2.2.2.2.2.take d1.toNat)[k]? = some _›); rw [stepQ, setQ1 ‹_ = (1 : Int)›, getF1 ‹_ = (1 : Int)›] at h_; exact h_) | (have h_ := play_next hb (get_take ‹(d0.2.2.2.2.2.2.take d1.toNat)[k]? = some _›); rw [stepQ, setQ2 ‹_ = (2 : Int)›, getF2 ‹_ = (2 : Int)›] at h_; exact h_) | (have h_ := play_next hb (get_take ‹(d0.2.2.2.2.2.2.take d1.toNat)[k]? = some _›); rw [stepQ, setQ3 ‹_ = (3 : Int)›, getF3 ‹_ = (3 : Int)›] at h_; exact h_), h_b0, (Ow.ownl f15_0 rfl mnil), h_b2, h_b3⟩, by exact fin2_dSettle_ok, ⟨⟨rfl, rfl, rfl, rfl, rfl, trivial⟩, fun _ h => Inv.sub h [107, 102, 103, 104, 105, 106, 0]⟩⟩
    · -- T2
      refine VD.y rfl rfl (.inl rfl) (.ixa (i := 2) (o := 7) rfl rfl tar59 hi13 rfl rfl) ?_
      refine VD.y rfl rfl (.inl rfl) (.ld1 107 rfl tk38 rfl (cellsAt_one rfl rfl)) ?_
      refine VD.y rfl rfl (.inl rfl) (.ldA 112 rfl tk107 rfl (cellsAt_one rfl rfl)) ?_
      refine VD.y rfl rfl (.inl rfl) (.nilp rfl) ?_
      refine VD.y rfl rfl (.inl rfl) (.fa rfl tst62 rfl) ?_
      refine VD.call 104 rfl rfl (.inl rfl) fnOk71 rfl rfl (fun _ _ h => h.sub [112, 107, 106, 0]) (fun W hW => dDone_ok W (hW.at (i := 104) rfl) (OwnL.ow h_b2 rfl) (Rd.mono hre10 (hW.out (i := 104) (j := 106) rfl rfl)) (by exact fin1_dSettle_ok) (by exact fin0_dSettle_ok)) (fun v16 m16 hv16 => ?_)
      obtain ⟨s16_0, rfl, f16_0⟩ := hv16
      obtain ⟨A16_0, c16_0, eq16_0, l16_0, k16_0⟩ := f16_0.slice
      subst eq16_0
      simp only [maxLen] at k16_0
      refine VD.nil rfl ?_ rfl
      refine VO.y rfl (.ixa (i := 2) (o := 7) rfl rfl tar59 hi13 rfl rfl) ?_
      refine VO.store (k := 1) 107 rfl rfl (.inr ⟨tk38, rfl⟩) rfl rfl rfl rfl rfl ?_
      refine VO.k7 0 1 5 11 12 13 14 ?_
      refine outBN ?_
      refine outN ?_
      refine VC.reg ?_
      refine VO.y rfl (.add (c := ((k + 1 : Nat) : Int)) rfl rfl (by omega) ⟨by exact fin2_dSettle_ok, by exact fin2_dSettle_ok⟩) ?_
      refine VO.mv ?_
      refine VO.k7 0 1 5 11 12 13 14 ?_
      exact outN ⟨⟨k + 1, b0, b0_A, b0_c, b0_m, b1, b1_A, b1_c, b1_m, doneB b2 x10, A16_0, c16_0, m16, b3, b3_A, b3_c, b3_m⟩, ⟨by omega, by first | (have h_ := play_next hb (get_take ‹(d0.2.2.2.2.2.2.take d1.toNat)[k]? = some _›); rw [stepQ, setQ0 ‹_ = (0 : Int)›, getF0 ‹_ = (0 : Int)›] at h_; exact h_) | (have h_ := play_next hb (get_take ‹(d0.2.2.2.2.2.2.take d1.toNat)[k]? = some _›); rw [stepQ, setQ1 ‹_ = (1 : Int)›, getF1 ‹_ = (1 : Int)›] at h_; exact h_) | (have h_ := play_next hb (get_take ‹(d0.2.2.2.2.2.2.take d1.toNat)[k]? = some _›); rw [stepQ, setQ2 ‹_ = (2 : Int)›, getF2 ‹_ = (2 : Int)›] at h_; exact h_) | (have h_ := play_next hb (get_take ‹(d0.2.2.2.2.2.2.take d1.toNat)[k]? = some _›); rw [stepQ, setQ3 ‹_ = (3 : Int)›, getF3 ‹_ = (3 : Int)›] at h_; exact h_), h_b0, h_b1, (Ow.ownl f16_0 rfl mnil), h_b3⟩, by exact fin2_dSettle_ok, ⟨⟨rfl, rfl, rfl, rfl, rfl, trivial⟩, fun _ h => Inv.sub h [107, 102, 103, 104, 105, 106, 0]⟩⟩
    · -- T3
      refine VD.y rfl rfl (.inl rfl) (.ixa (i := 3) (o := 8) rfl rfl tar59 hi13 rfl rfl) ?_
      refine VD.y rfl rfl (.inl rfl) (.ld1 107 rfl tk38 rfl (cellsAt_one rfl rfl)) ?_
      refine VD.y rfl rfl (.inl rfl) (.ldA 112 rfl tk107 rfl (cellsAt_one rfl rfl)) ?_
      refine VD.y rfl rfl (.inl rfl) (.nilp rfl) ?_
      refine VD.y rfl rfl (.inl rfl) (.fa rfl tst62 rfl) ?_
      refine VD.call 105 rfl rfl (.inl rfl) fnOk71 rfl rfl (fun _ _ h => h.sub [112, 107, 106, 0]) (fun W hW => dDone_ok W (hW.at (i := 105) rfl) (OwnL.ow h_b3 rfl) (Rd.mono hre10 (hW.out (i := 105) (j := 106) rfl rfl)) (by exact fin1_dSettle_ok) (by exact fin0_dSettle_ok)) (fun v17 m17 hv17 => ?_)
      obtain ⟨s17_0, rfl, f17_0⟩ := hv17
      obtain ⟨A17_0, c17_0, eq17_0, l17_0, k17_0⟩ := f17_0.slice
      subst eq17_0
      simp only [maxLen] at k17_0
      refine VD.nil rfl ?_ rfl
      refine VO.y rfl (.ixa (i := 3) (o := 8) rfl rfl tar59 hi13 rfl rfl) ?_
      refine VO.store (k := 1) 107 rfl rfl (.inr ⟨tk38, rfl⟩) rfl rfl rfl rfl rfl ?_
      refine VO.k7 0 1 5 11 12 13 14 ?_
      refine outBN ?_
      refine outN ?_
      refine VC.reg ?_
      refine VO.y rfl (.add (c := ((k + 1 : Nat) : Int)) rfl rfl (by omega) ⟨by exact fin2_dSettle_ok, by exact fin2_dSettle_ok⟩) ?_
      refine VO.mv ?_
      refine VO.k7 0 1 5 11 12 13 14 ?_
      exact outN ⟨⟨k + 1, b0, b0_A, b0_c, b0_m, b1, b1_A, b1_c, b1_m, b2, b2_A, b2_c, b2_m, doneB b3 x10, A17_0, c17_0, m17⟩, ⟨by omega, by first | (have h_ := play_next hb (get_take ‹(d0.2.2.2.2.2.2.take d1.toNat)[k]? = some _›); rw [stepQ, setQ0 ‹_ = (0 : Int)›, getF0 ‹_ = (0 : Int)›] at h_; exact h_) | (have h_ := play_next hb (get_take ‹(d0.2.2.2.2.2.2.take d1.toNat)[k]? = some _›); rw [stepQ, setQ1 ‹_ = (1 : Int)›, getF1 ‹_ = (1 : Int)›] at h_; exact h_) | (have h_ := play_next hb (get_take ‹(d0.2.2.2.2.2.2.take d1.toNat)[k]? = some _›); rw [stepQ, setQ2 ‹_ = (2 : Int)›, getF2 ‹_ = (2 : Int)›] at h_; exact h_) | (have h_ := play_next hb (get_take ‹(d0.2.2.2.2.2.2.take d1.toNat)[k]? = some _›); rw [stepQ, setQ3 ‹_ = (3 : Int)›, getF3 ‹_ = (3 : Int)›] at h_; exact h_), h_b0, h_b1, h_b2, (Ow.ownl f17_0 rfl mnil)⟩, by exact fin2_dSettle_ok, ⟨⟨rfl, rfl, rfl, rfl, rfl, trivial⟩, fun _ h => Inv.sub h [107, 102, 103, 104, 105, 106, 0]⟩⟩
  · -- F
    refine VC.exit ?_
    refine outE ?_
    refine outE ?_
    refine outBB ?_
    refine outN ?_
    refine VC.reg ?_
    refine VO.mv ?_
    refine VO.mv ?_
    refine VO.y rfl (.nilp rfl) ?_
    refine VO.y rfl (.fa rfl tst62 rfl) ?_
    refine VO.y rfl (.ld1 107 rfl tk60 rfl (cellsAt_one rfl rfl)) ?_
    refine VO.mv ?_
    obtain ⟨A18, hA18, ho18⟩ := q1_9.drop' 4 ((d1).toNat) rfl (by exact fin2_dSettle_ok)
    refine VO.y rfl (.slLI ((d1).toNat) A18 rfl rfl tsl60 (by exact fin2_dSettle_ok) hA18 (by exact fin2_dSettle_ok)) ?_
    refine VO.y rfl (.nilp rfl) ?_
    refine VO.y rfl (.fa rfl tst62 rfl) ?_
    refine VO.store (k := 1) 107 rfl rfl (.inr ⟨tk60, rfl⟩) rfl rfl rfl rfl rfl ?_
    refine VO.kp [107, 102, 103, 104, 105, 106, 0] [(107, mone g0 (.cells [Value.bool d0.1, Value.bool d0.2.1, Value.bool d0.2.2.1, Value.int .i64 (d0.2.2.2.1), Value.int .i64 (d0.2.2.2.2.1), Value.slice b0_A (b0.length) (b0_c), Value.slice b1_A (b1.length) (b1_c), Value.slice b2_A (b2.length) (b2_c), Value.slice b3_A (b3.length) (b3_c), Value.slice A18 (d0.2.2.2.2.2.2.length - ((d1).toNat)) (q1_c9 - ((d1).toNat))].toArray q1_E (0, 0))), (102, b0_m), (103, b1_m), (104, b2_m), (105, b3_m), (106, q1_n9), (0, mout (wm W) (m0))] ?_
    refine VO.k6 0 1 11 12 13 14 ?_
    refine ⟨_, _, res_run (rs := []) rfl .nil, fun W_ hI => out_of (l := [mone g0 (.cells [Value.bool d0.1, Value.bool d0.2.1, Value.bool d0.2.2.1, Value.int .i64 (d0.2.2.2.1), Value.int .i64 (d0.2.2.2.2.1), Value.slice b0_A (b0.length) (b0_c), Value.slice b1_A (b1.length) (b1_c), Value.slice b2_A (b2.length) (b2_c), Value.slice b3_A (b3.length) (b3_c), Value.slice A18 (d0.2.2.2.2.2.2.length - ((d1).toNat)) (q1_c9 - ((d1).toNat))].toArray q1_E (0, 0)), b0_m, b1_m, b2_m, b3_m, q1_n9]) hI [107, 102, 103, 104, 105, 106] rfl rfl (mle_refl _) (fun hS_ => ?_)⟩
    dsimp only [packV]
    have hm0_ : (settleD d0 d1.toNat : DdiskDisk) = (d0.1, d0.2.1, d0.2.2.1, d0.2.2.2.1, d0.2.2.2.2.1, (b0, b1, b2, b3), d0.2.2.2.2.2.2.drop ((d1).toNat)) := by first | rfl | ((have hk2 : k = d1.toNat := (by omega); subst hk2; unfold settleD; rw [← hb]))
    refine ⟨?_, ?_⟩
    rotate_left
    · rw [hm0_]; exact (mkP_diskDisk d0.1 d0.2.1 d0.2.2.1 d0.2.2.2.1 d0.2.2.2.2.1 b0 b1 b2 b3 (d0.2.2.2.2.2.2.drop ((d1).toNat)) hS_ (by simp only [inK]; (exact fin2_dSettle_ok)) (by simp only [inK]; (exact fin2_dSettle_ok)) (OwnL.ow h_b0 rfl) (OwnL.ow h_b1 rfl) (OwnL.ow h_b2 rfl) (OwnL.ow h_b3 rfl) ho18)
    all_goals (first | rfl | (simp [*]; done))
theorem fnOk65 : fnOk Try.prog 65 = true := by kernel_rfl
theorem fnOk70 : fnOk Try.prog 70 = true := by kernel_rfl
theorem fnOk73 : fnOk Try.prog 73 = true := by kernel_rfl
theorem fnOk74 : fnOk Try.prog 74 = true := by kernel_rfl
theorem fnOk76 : fnOk Try.prog 76 = true := by kernel_rfl
theorem fin0_dWrite_ok {P : Prop} (h : P := by first | (rw [write_bad1 (by assumption)] <;> rfl) | (rw [write_bad2 (by assumption) (by assumption)] <;> rfl) | (rw [write_go (by assumption) (by assumption), write_off hp hn (by omega) (by assumption)] <;> rfl) | (rw [write_go (by assumption) (by assumption), write_end hp (by omega)] <;> rfl)) : P := h
theorem dWrite_ok (W : World) {m0 : Mem} (hm : mle (m0) (wm W)) {g0 : Nat} {d0 : DdiskDisk} (h0 : Ow (.ptr TdiskDisk) m0 [.pointer (some ⟨g0, 0, none⟩)] (g0, d0)) (d1 : Int) (h1 : inK .i64 d1) {v2 : Value} {d2 : List UInt8} (h2 : Rd (.sl .byte) (mout (wm W) (m0)) [v2] d2) (e0 : okD d0) (e1 : wD d0 + 3 * d2.length ≤ 1000000000000) : CallR Try.prog 44 [.pointer (some ⟨g0, 0, none⟩), .int .i64 d1, v2] W (m0) (fun v m' => v = .int .i64 ((dWrite d0 d1 d2).2) ∧ Ow (.ptr TdiskDisk) m' [.pointer (some ⟨g0, 0, none⟩)] (g0, (dWrite d0 d1 d2).1)) := by
  have hok0 := e0; obtain ⟨hg, hfu, hst⟩ := e0
  have h1' := h1; simp only [inK] at h1'
  obtain ⟨A2, c2, rfl, l2, k2⟩ := h2.slice
  simp only [maxLen] at k2
  refine CallR.ofB (n := 44) hm Try.func44 rfl rfl rfl ?_
  refine VC.rs ?_
  refine VO.as ?_
  refine VO.k4 0 1 2 6 ?_
  refine VC.seq ?_
  refine VC.rs ?_
  refine VO.mv ?_
  refine VO.call 1 rfl fnOk65 rfl rfl (fun W hW => dWrong_ok W (hW.at (i := 1) rfl) h0) (fun v1 m1 hv1 => ?_)
  obtain ⟨rfl, w1_0⟩ := hv1
  refine VO.as ?_
  refine VO.k5 0 1 2 6 7 ?_
  refine VC.rs ?_
  refine VO.mv ?_
  refine VO.y rfl (.neq rfl rfl) ?_
  refine VO.kp [1, 0] [(1, m1), (0, mout (wm W) (m0))] ?_
  refine VO.k6 0 1 2 6 7 12 ?_
  refine VC.cond rfl (fun hc2 => ?_) (fun hc2 => ?_)
  · -- T
    refine VC.rs ?_
    refine VO.mv ?_
    refine VO.as ?_
    refine VO.k6 0 1 2 6 7 12 ?_
    refine VC.ret ?_
    refine outR ?_
    refine ⟨_, _, res_run (rs := [.tmp 6]) rfl (.tmp rfl .nil), fun W_ hI => out_of (l := [m1]) hI [1] rfl rfl (mle_refl _) (fun hS_ => ?_)⟩
    dsimp only [packV]
    have hm0_ : ((dWrite d0 d1 d2).1 : DdiskDisk) = d0 := by first | rfl | (exact fin0_dWrite_ok)
    refine ⟨?_, ?_⟩
    rotate_left
    · rw [hm0_]; exact (Ow.up w1_0 (hS_.1 _ (.head _)))
    all_goals (first | rfl | (exact fin0_dWrite_ok))
  · -- F
    refine VC.skip ?_
    refine outN ?_
    refine VC.seq ?_
    refine VC.rs ?_
    refine VO.mv ?_
    refine VO.callN 103 rfl fnOk73 rfl (fun W hW => dIs_ok W d1 bdk) (fun v3 m3 hv3 => ?_)
    subst hv3
    refine VO.y rfl (.notD rfl) ?_
    refine VO.k7 0 1 2 6 7 12 16 ?_
    refine VC.cond rfl (fun hc4 => ?_) (fun hc4 => ?_)
    · -- FT
      refine VC.rs ?_
      refine VO.as ?_
      refine VO.k7 0 1 2 6 7 12 16 ?_
      refine VC.ret ?_
      refine outR ?_
      refine ⟨_, _, res_run (rs := [.tmp 6]) rfl (.tmp rfl .nil), fun W_ hI => out_of (l := [m1]) hI [1] rfl rfl (mle_refl _) (fun hS_ => ?_)⟩
      dsimp only [packV]
      have hm0_ : ((dWrite d0 d1 d2).1 : DdiskDisk) = d0 := by first | rfl | (exact fin0_dWrite_ok)
      refine ⟨?_, ?_⟩
      rotate_left
      · rw [hm0_]; exact (Ow.up w1_0 (hS_.1 _ (.head _)))
      all_goals (first | rfl | (exact fin0_dWrite_ok))
    · -- FF
      refine VC.skip ?_
      refine outN ?_
      refine VC.seq ?_
      refine VC.block ?_
      refine VC.loop (G := DdiskDisk × Mem × (List UInt8) × (Option Addr) × Nat × Nat) (fun g => [(2, Value.slice (g.2.2.2.1) ((g.2.2.1).length) ((g.2.2.2.2.1))), (0, Value.pointer (some ⟨g0, 0, none⟩)), (1, Value.int .i64 (d1)), (7, Value.int .i64 (wrongD d0)), (12, Value.bool (decide (¬ (wrongD d0) = 0))), (16, Value.bool (decide (¬ (inF d1))))]) (fun g => [(1, (g.2.1)), (0, mout (wm W) (m0))]) (fun g => (writeGo d2.length d0 d1 d2 = writeGo (g.2.2.2.2.2) (g.1) d1 (g.2.2.1)) ∧ ((g.2.2.1).length ≤ (g.2.2.2.2.2)) ∧ (okD (g.1)) ∧ (wD (g.1) + 3 * (g.2.2.1).length ≤ 1000000000000) ∧ (Rd (.sl .byte) (mout (wm W) (m0)) [.slice (g.2.2.2.1) (g.2.2.1).length (g.2.2.2.2.1)] (g.2.2.1)) ∧ (Ow (.ptr TdiskDisk) (g.2.1) [.pointer (some ⟨g0, 0, none⟩)] (g0, (g.1)))) (fun g => (g.2.2.1).length) (d0, m1, d2, A2, c2, d2.length) (⟨by rfl, by (dsimp only; omega), by exact hok0, by (dsimp only; omega), h2, w1_0⟩) ⟨⟨rfl, rfl, rfl, rfl, rfl, rfl, trivial⟩, fun _ h => h.sub [1, 0]⟩ ?_
      rintro ⟨d, d_m, b, b_A, b_c, n⟩ ⟨hp, hn, hok, hw, h_b, h_d⟩
      replace hp : writeGo d2.length d0 d1 d2 = writeGo n d d1 b := hp
      replace hn : b.length ≤ n := hn
      replace hok : okD d := hok
      replace hw : wD d + 3 * b.length ≤ 1000000000000 := hw
      replace h_b : Rd (.sl .byte) (mout (wm W) (m0)) [.slice b_A b.length b_c] b := h_b
      replace h_d : Ow (.ptr TdiskDisk) d_m [.pointer (some ⟨g0, 0, none⟩)] (g0, d) := h_d
      show VC _ _ _ _ _ [(2, Value.slice b_A (b.length) (b_c)), (0, Value.pointer (some ⟨g0, 0, none⟩)), (1, Value.int .i64 (d1)), (7, Value.int .i64 (wrongD d0)), (12, Value.bool (decide (¬ (wrongD d0) = 0))), (16, Value.bool (decide (¬ (inF d1))))] [(1, d_m), (0, mout (wm W) (m0))]
      have l_b : b.length ≤ b_c := by obtain ⟨_, _, he, hl, _⟩ := h_b.slice; simp only [Value.slice.injEq] at he; omega
      have k_b : b_c ≤ 9223372036854775807 := by obtain ⟨_, _, he, _, hl⟩ := h_b.slice; simp only [Value.slice.injEq, maxLen] at he hl; omega
      refine VC.seq ?_
      refine VC.rs ?_
      refine VO.mv ?_
      refine VO.y rfl (.lenS rfl tsl38) ?_
      refine VO.y rfl (.gtr rfl rfl) ?_
      refine VO.k7 0 1 2 7 12 16 19 ?_
      refine VC.cond rfl (fun hc5 => ?_) (fun hc5 => ?_)
      · -- FFT
        refine VC.skip ?_
        refine outN ?_
        refine VC.block ?_
        refine VC.seq ?_
        refine VC.rs ?_
        refine VO.mv ?_
        refine VO.call 1 rfl fnOk76 rfl rfl (fun W hW => dBurn_ok W (hW.at (i := 1) rfl) h_d (by assumption) bd) (fun v6 m6 hv6 => ?_)
        obtain ⟨rfl, w6_0⟩ := hv6
        have hfa7 := (burn_ok (show okD d by assumption))
        have hfa8 := (burn_w (show okD d by assumption))
        have hfa9 := (len_w (burnD d).1)
        refine VO.y rfl (.notD rfl) ?_
        refine VO.kp [1, 0] [(1, m6), (0, mout (wm W) (m0))] ?_
        refine VO.k8 0 1 2 7 12 16 19 22 ?_
        refine VC.cond rfl (fun hc10 => ?_) (fun hc10 => ?_)
        · -- FFTT
          refine VC.rs ?_
          refine VO.as ?_
          refine VO.k9 0 1 2 6 7 12 16 19 22 ?_
          refine VC.ret ?_
          refine outR ?_
          refine outBR ?_
          refine outR ?_
          refine outBR ?_
          refine outR ?_
          refine ⟨_, _, res_run (rs := [.tmp 6]) rfl (.tmp rfl .nil), fun W_ hI => out_of (l := [m6]) hI [1] rfl rfl (mle_refl _) (fun hS_ => ?_)⟩
          dsimp only [packV]
          have hm0_ : ((dWrite d0 d1 d2).1 : DdiskDisk) = (burnD d).1 := by first | rfl | (exact fin0_dWrite_ok)
          refine ⟨?_, ?_⟩
          rotate_left
          · rw [hm0_]; exact (Ow.up w6_0 (hS_.1 _ (.head _)))
          all_goals (first | rfl | (exact fin0_dWrite_ok))
        · -- FFTF
          refine VC.skip ?_
          refine outN ?_
          refine VC.rs ?_
          refine VO.mv ?_
          refine VO.y rfl (.lenS rfl tsl38) ?_
          refine VO.y rfl (.minM rfl rfl) ?_
          refine VO.as ?_
          refine VO.k9 0 1 2 7 8 12 16 19 22 ?_
          refine VC.seq ?_
          obtain ⟨q11_E, q11_A5, q11_c5, q11_A6, q11_c6, q11_A7, q11_c7, q11_A8, q11_c8, q11_A9, q11_c9, q11_n5, q11_n6, q11_n7, q11_n8, q11_n9, _, q11_S, q11_3, q11_4, q11_5, q11_6, q11_7, q11_8, q11_9⟩ := openP_diskDisk (x0 := ((burnD d).1).1) (x1 := ((burnD d).1).2.1) (x2 := ((burnD d).1).2.2.1) (x3 := ((burnD d).1).2.2.2.1) (x4 := ((burnD d).1).2.2.2.2.1) (x5 := (((burnD d).1).2.2.2.2.2.1).1) (x6 := (((burnD d).1).2.2.2.2.2.1).2.1) (x7 := (((burnD d).1).2.2.2.2.2.1).2.2.1) (x8 := (((burnD d).1).2.2.2.2.2.1).2.2.2) (x9 := ((burnD d).1).2.2.2.2.2.2) w6_0
          simp only [inK] at q11_3
          simp only [inK] at q11_4
          have q11_r5 := q11_5.rm
          have q11_r6 := q11_6.rm
          have q11_r7 := q11_7.rm
          have q11_r8 := q11_8.rm
          have q11_r9 := q11_9.rm
          refine VC.inv _ (fun _ h => h.parts (i := 1) rfl q11_S [117, 112, 113, 114, 115, 116]) ?_
          refine VC.regD _ 13 [(0, true), (1, true), (2, true), (3, true), (4, true), (5, true), (6, true), (7, true), (8, true), (9, false), (10, true), (11, false), (12, false)] follows (by kernel_rfl) (fun _ h => h.sub [117, 112, 113, 114, 115, 0]) ?_
          refine VD.y rfl rfl (.inl rfl) (.mv rfl) ?_
          refine VD.y rfl rfl (.inl rfl) (.mv rfl) ?_
          refine VD.y rfl rfl (.inl rfl) (.nilp rfl) ?_
          refine VD.y rfl rfl (.inl rfl) (.fa rfl tst62 rfl) ?_
          refine VD.y rfl rfl (.inl rfl) (.ld1 117 rfl tk60 rfl (cellsAt_one rfl rfl)) ?_
          refine VD.y rfl rfl (.inl rfl) (.mv rfl) ?_
          refine VD.y rfl rfl (.inl rfl) (.mv rfl) ?_
          refine VD.y rfl rfl (.inl rfl) (.mv rfl) ?_
          have hs18 := h_b.pre (j := ((min ((b.length : Nat) : Int) 64).toNat)) bd
          refine VD.y rfl rfl (.inl rfl) (.slHI ((min ((b.length : Nat) : Int) 64).toNat) rfl rfl tsl38 bd bd) ?_
          refine VD.inv _ (fun _ h => h.nilc 120) ?_
          obtain ⟨mo19, cs19, hM19, hA19, hC19⟩ := (OwnL.nil .byte mnil mnil)
          obtain ⟨all19, hS19, hR19⟩ := Rd.srcI (P := Try.prog) (hs18) Try.underlying38
          refine VD.app 120 rfl rfl rfl rfl tsl38 tz5 rfl rfl hM19 hA19 (hS19 _ 0 rfl) hR19.nice bdm bd (by decide) (fun _ _ h => h.sub [117, 112, 113, 114, 115, 0]) (fun v19 m19 hN19 => ?_)
          have ho19 : OwnL .byte m19 mnil v19 ((b).take ((min ((b.length : Nat) : Int) 64).toNat)) := OwnL.more hC19 hN19 (All2c.mono hR19 fun _ _ h => Rd.flat rfl h _)
          obtain ⟨A19, c19, rfl, l19, k19⟩ := ho19.slice
          simp only [maxLen] at k19
          refine VD.y rfl rfl (.inl rfl) (.bst (cs := [Value.int .i64 (0), Value.int .i64 (d1), Value.slice A19 (((b).take ((min ((b.length : Nat) : Int) 64).toNat)).length) (c19), Value.int .i64 (0)]) rfl tst107 tz107 rfl) ?_
          refine VD.bsl (cs := [Value.int .i64 (0), Value.int .i64 (d1), Value.slice A19 (((b).take ((min ((b.length : Nat) : Int) 64).toNat)).length) (c19), Value.int .i64 (0)]) 122 rfl rfl rfl tsl60 tz107 rfl rfl (fun _ h => h.sub [117, 112, 113, 114, 115, 0]) (fun g21 => ?_)
          refine VD.appO (e := Tdiskstep) 116 120 122 rfl rfl rfl rfl tsl60 tz107 rfl rfl rfl rfl q11_9 (mkO_diskstep 0 d1 ((b).take ((min ((b.length : Nat) : Int) 64).toNat)) 0 (Seps.one (mle_refl _)) bdk bdk (OwnL.ow ho19 rfl) bdk) Try.underlying60 (cellsAt_one rfl rfl) bdm bd (by decide) (fun _ _ h => h.sub [117, 112, 113, 114, 115, 0]) (fun v23 m23 ho23 => ?_)
          obtain ⟨A23, c23, rfl, l23, k23⟩ := ho23.slice
          simp only [maxLen] at k23
          refine VD.nil rfl ?_ rfl
          refine VO.y rfl (.nilp rfl) ?_
          refine VO.y rfl (.fa rfl tst62 rfl) ?_
          refine VO.store (k := 1) 117 rfl rfl (.inr ⟨tk60, rfl⟩) rfl rfl rfl rfl rfl ?_
          refine VO.clsP 124 [117, 112, 113, 114, 115, 116] rfl (fun hg24 => (mkP_diskDisk (((burnD d).1).1) (((burnD d).1).2.1) (((burnD d).1).2.2.1) (((burnD d).1).2.2.2.1) (((burnD d).1).2.2.2.2.1) ((((burnD d).1).2.2.2.2.2.1).1) ((((burnD d).1).2.2.2.2.2.1).2.1) ((((burnD d).1).2.2.2.2.2.1).2.2.1) ((((burnD d).1).2.2.2.2.2.1).2.2.2) ((((burnD d).1).2.2.2.2.2.2) ++ [((0, d1, (b).take ((min ((b.length : Nat) : Int) 64).toNat), 0) : Ddiskstep)]) hg24 bdk bdk (OwnL.ow (Ow.ownl q11_5 rfl mnil) rfl) (OwnL.ow (Ow.ownl q11_6 rfl mnil) rfl) (OwnL.ow (Ow.ownl q11_7 rfl mnil) rfl) (OwnL.ow (Ow.ownl q11_8 rfl mnil) rfl) ho23)) (fun mc24 ho24 => ?_)
          refine VO.k9 0 1 2 7 8 12 16 19 22 ?_
          refine outN ?_
          refine VC.reg ?_
          refine VO.mv ?_
          refine VO.mv ?_
          obtain ⟨A25, hA25, hs25⟩ := h_b.drop 1 ((min ((b.length : Nat) : Int) 64).toNat) rfl bd
          refine VO.y rfl (.slLI ((min ((b.length : Nat) : Int) 64).toNat) A25 rfl rfl tsl38 bd hA25 bd) ?_
          refine VO.as ?_
          refine VO.kp [124, 0] [(124, mc24), (0, mout (wm W) (m0))] ?_
          refine VO.k9 0 1 2 7 8 12 16 19 22 ?_
          refine outBN ?_
          have hrl26 : b.length - ((min ((b.length : Nat) : Int) 64).toNat) = (b.drop ((min ((b.length : Nat) : Int) 64).toNat)).length := by simp only [List.length_drop, List.length_take]; try omega
          rw [hrl26]
          exact outN ⟨⟨(((burnD d).1).1, ((burnD d).1).2.1, ((burnD d).1).2.2.1, ((burnD d).1).2.2.2.1, ((burnD d).1).2.2.2.2.1, (((burnD d).1).2.2.2.2.2.1), (((burnD d).1).2.2.2.2.2.2) ++ [((0, d1, (b).take ((min ((b.length : Nat) : Int) 64).toNat), 0) : Ddiskstep)]), mc24, b.drop ((min ((b.length : Nat) : Int) 64).toNat), A25, b_c - ((min ((b.length : Nat) : Int) 64).toNat), n - 1⟩, ⟨by exact write_step hp hn (by omega) (Decidable.not_not.1 ‹¬ ¬ (burnD d).2 = true›) (by omega), by (simp only [List.length_drop]; omega), by exact step_ok hok (Decidable.not_not.1 ‹¬ ¬ inF d1›) (by omega) (by omega), by exact Nat.le_trans (step_w (f := d1) (b := b) (m := (min ((b.length : Nat) : Int) 64).toNat) hok (by omega) (by omega)) hw, (Rd.relen hs25 rfl), ho24⟩, by (simp only [List.length_drop]; omega), ⟨⟨rfl, rfl, rfl, rfl, rfl, rfl, trivial⟩, fun _ h => Inv.sub (Inv.num h 124 1 rfl) [1, 0]⟩⟩
      · -- FFF
        refine VC.exit ?_
        refine outE ?_
        refine outE ?_
        refine outBB ?_
        refine outN ?_
        refine VC.rs ?_
        refine VO.as ?_
        refine VO.kp [1, 0] [(1, d_m), (0, mout (wm W) (m0))] ?_
        refine VO.k8 0 1 2 6 7 12 16 19 ?_
        refine VC.ret ?_
        refine ⟨_, _, res_run (rs := [.tmp 6]) rfl (.tmp rfl .nil), fun W_ hI => out_of (l := [d_m]) hI [1] rfl rfl (mle_refl _) (fun hS_ => ?_)⟩
        dsimp only [packV]
        have hm0_ : ((dWrite d0 d1 d2).1 : DdiskDisk) = d := by first | rfl | (exact fin0_dWrite_ok)
        refine ⟨?_, ?_⟩
        rotate_left
        · rw [hm0_]; exact (Ow.up h_d (hS_.1 _ (.head _)))
        all_goals (first | rfl | (exact fin0_dWrite_ok))
theorem fin0_dCut_ok {P : Prop} (h : P := by first | (rw [cut_bad1 (by assumption)] <;> rfl) | (rw [cut_bad2 (by assumption) (.inl (by assumption))] <;> rfl) | (rw [cut_bad2 (by assumption) (.inr (.inl (by assumption)))] <;> rfl) | (rw [cut_bad2 (by assumption) (.inr (.inr (by assumption)))] <;> rfl) | (rw [cut_go (by assumption) (by assumption) (by assumption) (by assumption) (by assumption)] <;> rfl) | (rw [cut_off (by assumption) (by assumption) (by assumption) (by assumption) (by assumption)] <;> rfl)) : P := h
theorem dCut_ok (W : World) {m0 : Mem} (hm : mle (m0) (wm W)) {g0 : Nat} {d0 : DdiskDisk} (h0 : Ow (.ptr TdiskDisk) m0 [.pointer (some ⟨g0, 0, none⟩)] (g0, d0)) (d1 : Int) (h1 : inK .i64 d1) (d2 : Int) (h2 : inK .i64 d2) (e0 : okD d0) (e1 : wD d0 ≤ 1000000000000) : CallR Try.prog 40 [.pointer (some ⟨g0, 0, none⟩), .int .i64 d1, .int .i64 d2] W (m0) (fun v m' => v = .int .i64 ((dCut d0 d1 d2).2) ∧ Ow (.ptr TdiskDisk) m' [.pointer (some ⟨g0, 0, none⟩)] (g0, (dCut d0 d1 d2).1)) := by
  have h1' := h1; simp only [inK] at h1'
  have h2' := h2; simp only [inK] at h2'
  refine CallR.ofB (n := 43) hm Try.func40 rfl rfl rfl ?_
  refine VC.rs ?_
  refine VO.as ?_
  refine VO.k4 0 1 2 6 ?_
  refine VC.seq ?_
  refine VC.rs ?_
  refine VO.mv ?_
  refine VO.call 1 rfl fnOk65 rfl rfl (fun W hW => dWrong_ok W (hW.at (i := 1) rfl) h0) (fun v1 m1 hv1 => ?_)
  obtain ⟨rfl, w1_0⟩ := hv1
  refine VO.as ?_
  refine VO.k5 0 1 2 6 7 ?_
  refine VC.rs ?_
  refine VO.mv ?_
  refine VO.y rfl (.neq rfl rfl) ?_
  refine VO.kp [1, 0] [(1, m1), (0, mout (wm W) (m0))] ?_
  refine VO.k6 0 1 2 6 7 11 ?_
  refine VC.cond rfl (fun hc2 => ?_) (fun hc2 => ?_)
  · -- T
    refine VC.rs ?_
    refine VO.mv ?_
    refine VO.as ?_
    refine VO.k6 0 1 2 6 7 11 ?_
    refine VC.ret ?_
    refine outR ?_
    refine ⟨_, _, res_run (rs := [.tmp 6]) rfl (.tmp rfl .nil), fun W_ hI => out_of (l := [m1]) hI [1] rfl rfl (mle_refl _) (fun hS_ => ?_)⟩
    dsimp only [packV]
    have hm0_ : ((dCut d0 d1 d2).1 : DdiskDisk) = d0 := by first | rfl | (exact fin0_dCut_ok)
    refine ⟨?_, ?_⟩
    rotate_left
    · rw [hm0_]; exact (Ow.up w1_0 (hS_.1 _ (.head _)))
    all_goals (first | rfl | (exact fin0_dCut_ok))
  · -- F
    refine VC.skip ?_
    refine outN ?_
    refine VC.seq ?_
    refine VC.rs ?_
    refine VO.mv ?_
    refine VO.callN 103 rfl fnOk73 rfl (fun W hW => dIs_ok W d1 bdk) (fun v3 m3 hv3 => ?_)
    subst hv3
    refine VO.y rfl (.notD rfl) ?_
    refine VO.mv ?_
    refine VO.dec (t := 16) rfl (fun hc4 => ?_) (fun hc4 => ?_)
    · -- FT
      refine VO.gN ?_
      refine VO.gN ?_
      refine VO.y rfl (.pT rfl rfl) ?_
      refine VO.mv ?_
      refine VO.gN ?_
      refine VO.gN ?_
      refine VO.gN ?_
      refine VO.gN ?_
      refine VO.gN ?_
      refine VO.gN ?_
      refine VO.y rfl (.pT rfl rfl) ?_
      refine VO.k7 0 1 2 6 7 11 27 ?_
      refine VC.condT rfl ?_
      refine VC.rs ?_
      refine VO.as ?_
      refine VO.k7 0 1 2 6 7 11 27 ?_
      refine VC.ret ?_
      refine outR ?_
      refine ⟨_, _, res_run (rs := [.tmp 6]) rfl (.tmp rfl .nil), fun W_ hI => out_of (l := [m1]) hI [1] rfl rfl (mle_refl _) (fun hS_ => ?_)⟩
      dsimp only [packV]
      have hm0_ : ((dCut d0 d1 d2).1 : DdiskDisk) = d0 := by first | rfl | (exact fin0_dCut_ok)
      refine ⟨?_, ?_⟩
      rotate_left
      · rw [hm0_]; exact (Ow.up w1_0 (hS_.1 _ (.head _)))
      all_goals (first | rfl | (exact fin0_dCut_ok))
    · -- FF
      refine VO.gy rfl ⟨_, rfl, rfl⟩ (.mv rfl) ?_
      refine VO.gy rfl ⟨_, rfl, rfl⟩ (.lss rfl rfl) ?_
      refine VO.y rfl (.pF rfl rfl) ?_
      refine VO.mv ?_
      refine VO.dec (t := 20) rfl (fun hc5 => ?_) (fun hc5 => ?_)
      · -- FFT
        refine VO.gN ?_
        refine VO.gN ?_
        refine VO.gN ?_
        refine VO.gN ?_
        refine VO.gN ?_
        refine VO.gN ?_
        refine VO.y rfl (.pT rfl rfl) ?_
        refine VO.k7 0 1 2 6 7 11 27 ?_
        refine VC.condT rfl ?_
        refine VC.rs ?_
        refine VO.as ?_
        refine VO.k7 0 1 2 6 7 11 27 ?_
        refine VC.ret ?_
        refine outR ?_
        refine ⟨_, _, res_run (rs := [.tmp 6]) rfl (.tmp rfl .nil), fun W_ hI => out_of (l := [m1]) hI [1] rfl rfl (mle_refl _) (fun hS_ => ?_)⟩
        dsimp only [packV]
        have hm0_ : ((dCut d0 d1 d2).1 : DdiskDisk) = d0 := by first | rfl | (exact fin0_dCut_ok)
        refine ⟨?_, ?_⟩
        rotate_left
        · rw [hm0_]; exact (Ow.up w1_0 (hS_.1 _ (.head _)))
        all_goals (first | rfl | (exact fin0_dCut_ok))
      · -- FFF
        refine VO.gy rfl ⟨_, rfl, rfl⟩ (.mv rfl) ?_
        refine VO.gy rfl ⟨_, rfl, rfl⟩ (.mv rfl) ?_
        refine VO.gy rfl ⟨_, rfl, rfl⟩ (.mv rfl) ?_
        refine VO.gcall 1 rfl ⟨_, rfl, rfl⟩ fnOk74 rfl rfl (fun W hW => dHeld_ok W (hW.at (i := 1) rfl) w1_0 d1 bdk (by assumption) bd (by first | assumption | (apply Decidable.not_not.1; assumption))) (fun v6 m6 hv6 => ?_)
        obtain ⟨s6_0, p6_0, p6_1, rfl, hS6, f6_0, w6_0⟩ := hv6
        refine VO.inv _ (fun _ h => h.parts (i := 1) rfl hS6 [107, 108]) ?_
        have hfa9 := heldB_size d0.2.2.2.2.2.1 d0.2.2.2.2.2.2 d1
        obtain ⟨A6_0, c6_0, eq6_0, l6_0, k6_0⟩ := f6_0.slice
        subst eq6_0
        simp only [maxLen] at k6_0
        refine VO.gy rfl ⟨_, rfl, rfl⟩ (.lenS rfl tsl38) ?_
        refine VO.gy rfl ⟨_, rfl, rfl⟩ (.gtr rfl rfl) ?_
        refine VO.y rfl (.pF rfl rfl) ?_
        refine VO.k7 0 1 2 6 7 11 27 ?_
        refine VC.cond rfl (fun hc10 => ?_) (fun hc10 => ?_)
        · -- FFFT
          refine VC.rs ?_
          refine VO.as ?_
          refine VO.k7 0 1 2 6 7 11 27 ?_
          refine VC.ret ?_
          refine outR ?_
          refine ⟨_, _, res_run (rs := [.tmp 6]) rfl (.tmp rfl .nil), fun W_ hI => out_of (l := [p6_1]) hI [108] rfl rfl (mle_refl _) (fun hS_ => ?_)⟩
          dsimp only [packV]
          have hm0_ : ((dCut d0 d1 d2).1 : DdiskDisk) = d0 := by first | rfl | (exact fin0_dCut_ok)
          refine ⟨?_, ?_⟩
          rotate_left
          · rw [hm0_]; exact (Ow.up w6_0 (hS_.1 _ (.head _)))
          all_goals (first | rfl | (exact fin0_dCut_ok))
        · -- FFFF
          refine VC.skip ?_
          refine outN ?_
          refine VC.seq ?_
          refine VC.rs ?_
          refine VO.mv ?_
          refine VO.call 108 rfl fnOk76 rfl rfl (fun W hW => dBurn_ok W (hW.at (i := 108) rfl) w6_0 (by assumption) bd) (fun v11 m11 hv11 => ?_)
          obtain ⟨rfl, w11_0⟩ := hv11
          have hfa12 := (burn_ok (show okD d0 by assumption))
          have hfa13 := (burn_w (show okD d0 by assumption))
          have hfa14 := (len_w (burnD d0).1)
          refine VO.y rfl (.notD rfl) ?_
          refine VO.k8 0 1 2 6 7 11 27 30 ?_
          refine VC.cond rfl (fun hc15 => ?_) (fun hc15 => ?_)
          · -- FFFFT
            refine VC.rs ?_
            refine VO.as ?_
            refine VO.kp [108, 0] [(108, m11), (0, mout (wm W) (m0))] ?_
            refine VO.k8 0 1 2 6 7 11 27 30 ?_
            refine VC.ret ?_
            refine outR ?_
            refine ⟨_, _, res_run (rs := [.tmp 6]) rfl (.tmp rfl .nil), fun W_ hI => out_of (l := [m11]) hI [108] rfl rfl (mle_refl _) (fun hS_ => ?_)⟩
            dsimp only [packV]
            have hm0_ : ((dCut d0 d1 d2).1 : DdiskDisk) = (burnD d0).1 := by first | rfl | (exact fin0_dCut_ok)
            refine ⟨?_, ?_⟩
            rotate_left
            · rw [hm0_]; exact (Ow.up w11_0 (hS_.1 _ (.head _)))
            all_goals (first | rfl | (exact fin0_dCut_ok))
          · -- FFFFF
            refine VC.skip ?_
            refine outN ?_
            refine VC.rs ?_
            refine VO.mv ?_
            refine VO.mv ?_
            refine VO.y rfl (.nilp rfl) ?_
            refine VO.y rfl (.fa rfl tst62 rfl) ?_
            obtain ⟨q16_E, q16_A5, q16_c5, q16_A6, q16_c6, q16_A7, q16_c7, q16_A8, q16_c8, q16_A9, q16_c9, q16_n5, q16_n6, q16_n7, q16_n8, q16_n9, _, q16_S, q16_3, q16_4, q16_5, q16_6, q16_7, q16_8, q16_9⟩ := openP_diskDisk (x0 := ((burnD d0).1).1) (x1 := ((burnD d0).1).2.1) (x2 := ((burnD d0).1).2.2.1) (x3 := ((burnD d0).1).2.2.2.1) (x4 := ((burnD d0).1).2.2.2.2.1) (x5 := (((burnD d0).1).2.2.2.2.2.1).1) (x6 := (((burnD d0).1).2.2.2.2.2.1).2.1) (x7 := (((burnD d0).1).2.2.2.2.2.1).2.2.1) (x8 := (((burnD d0).1).2.2.2.2.2.1).2.2.2) (x9 := ((burnD d0).1).2.2.2.2.2.2) w11_0
            simp only [inK] at q16_3
            simp only [inK] at q16_4
            have q16_r5 := q16_5.rm
            have q16_r6 := q16_6.rm
            have q16_r7 := q16_7.rm
            have q16_r8 := q16_8.rm
            have q16_r9 := q16_9.rm
            refine VO.inv _ (fun _ h => h.parts (i := 108) rfl q16_S [122, 117, 118, 119, 120, 121]) ?_
            refine VO.y rfl (.ld1 122 rfl tk60 rfl (cellsAt_one rfl rfl)) ?_
            refine VO.mv ?_
            refine VO.mv ?_
            refine VO.y rfl (.bst (cs := [Value.int .i64 (1), Value.int .i64 (d1), Value.slice none (0) (0), Value.int .i64 (d2)]) rfl tst107 tz107 rfl) ?_
            refine VO.bsl (cs := [Value.int .i64 (1), Value.int .i64 (d1), Value.slice none (0) (0), Value.int .i64 (d2)]) 124 rfl rfl tsl60 tz107 rfl rfl (fun g23 => ?_)
            refine VO.inv ((126, mnil) :: _) (fun _ h => h.nilc 126) ?_
            refine VO.appO (e := Tdiskstep) 121 126 124 rfl rfl rfl tsl60 tz107 rfl rfl rfl rfl q16_9 (mkO_diskstep 1 d1 [] d2 (Seps.nilAt 0 (Seps.nil _)) bdk bdk (Ow.nil _ _) bdk) Try.underlying60 (cellsAt_one rfl rfl) bdm bd (by decide) (fun v25 m25 ho25 => ?_)
            obtain ⟨A25, c25, rfl, l25, k25⟩ := ho25.slice
            simp only [maxLen] at k25
            refine VO.y rfl (.nilp rfl) ?_
            refine VO.y rfl (.fa rfl tst62 rfl) ?_
            refine VO.store (k := 1) 122 rfl rfl (.inr ⟨tk60, rfl⟩) rfl rfl rfl rfl rfl ?_
            refine VO.clsP 127 [122, 117, 118, 119, 120, 121] rfl (fun hg27 => (mkP_diskDisk (((burnD d0).1).1) (((burnD d0).1).2.1) (((burnD d0).1).2.2.1) (((burnD d0).1).2.2.2.1) (((burnD d0).1).2.2.2.2.1) ((((burnD d0).1).2.2.2.2.2.1).1) ((((burnD d0).1).2.2.2.2.2.1).2.1) ((((burnD d0).1).2.2.2.2.2.1).2.2.1) ((((burnD d0).1).2.2.2.2.2.1).2.2.2) ((((burnD d0).1).2.2.2.2.2.2) ++ [((1, d1, [], d2) : Ddiskstep)]) hg27 bdk bdk (OwnL.ow (Ow.ownl q16_5 rfl mnil) rfl) (OwnL.ow (Ow.ownl q16_6 rfl mnil) rfl) (OwnL.ow (Ow.ownl q16_7 rfl mnil) rfl) (OwnL.ow (Ow.ownl q16_8 rfl mnil) rfl) ho25)) (fun mc27 ho27 => ?_)
            refine VO.kp [127, 0] [(127, mc27), (0, mout (wm W) (m0))] ?_
            refine VO.k8 0 1 2 6 7 11 27 30 ?_
            refine VC.rs ?_
            refine VO.as ?_
            refine VO.k8 0 1 2 6 7 11 27 30 ?_
            refine VC.ret ?_
            refine ⟨_, _, res_run (rs := [.tmp 6]) rfl (.tmp rfl .nil), fun W_ hI => out_of (l := [mc27]) hI [127] rfl rfl (mle_refl _) (fun hS_ => ?_)⟩
            dsimp only [packV]
            have hm0_ : ((dCut d0 d1 d2).1 : DdiskDisk) = (((burnD d0).1).1, ((burnD d0).1).2.1, ((burnD d0).1).2.2.1, ((burnD d0).1).2.2.2.1, ((burnD d0).1).2.2.2.2.1, (((burnD d0).1).2.2.2.2.2.1), (((burnD d0).1).2.2.2.2.2.2) ++ [((1, d1, [], d2) : Ddiskstep)]) := by first | rfl | (exact fin0_dCut_ok)
            refine ⟨?_, ?_⟩
            rotate_left
            · rw [hm0_]; exact (Ow.up ho27 (hS_.1 _ (.head _)))
            all_goals (first | rfl | (exact fin0_dCut_ok))
theorem dSync_ok (W : World) {m0 : Mem} (hm : mle (m0) (wm W)) {g0 : Nat} {d0 : DdiskDisk} (h0 : Ow (.ptr TdiskDisk) m0 [.pointer (some ⟨g0, 0, none⟩)] (g0, d0)) (e0 : okD d0) (e1 : wD d0 ≤ 1000000000000) : CallR Try.prog 41 [.pointer (some ⟨g0, 0, none⟩)] W (m0) (fun v m' => v = .int .i64 ((dSync d0).2) ∧ Ow (.ptr TdiskDisk) m' [.pointer (some ⟨g0, 0, none⟩)] (g0, (dSync d0).1)) := by
  refine CallR.ofB (n := 19) hm Try.func41 rfl rfl rfl ?_
  refine VC.rs ?_
  refine VO.as ?_
  refine VO.k2 0 2 ?_
  refine VC.seq ?_
  refine VC.rs ?_
  refine VO.mv ?_
  refine VO.call 1 rfl fnOk65 rfl rfl (fun W hW => dWrong_ok W (hW.at (i := 1) rfl) h0) (fun v1 m1 hv1 => ?_)
  obtain ⟨rfl, w1_0⟩ := hv1
  refine VO.as ?_
  refine VO.k3 0 2 3 ?_
  refine VC.rs ?_
  refine VO.mv ?_
  refine VO.y rfl (.neq rfl rfl) ?_
  refine VO.kp [1, 0] [(1, m1), (0, mout (wm W) (m0))] ?_
  refine VO.k4 0 2 3 7 ?_
  refine VC.cond rfl (fun hc2 => ?_) (fun hc2 => ?_)
  · -- T
    refine VC.rs ?_
    refine VO.mv ?_
    refine VO.as ?_
    refine VO.k4 0 2 3 7 ?_
    refine VC.ret ?_
    refine outR ?_
    refine ⟨_, _, res_run (rs := [.tmp 2]) rfl (.tmp rfl .nil), fun W_ hI => out_of (l := [m1]) hI [1] rfl rfl (mle_refl _) (fun hS_ => ?_)⟩
    dsimp only [packV]
    have hm0_ : ((dSync d0).1 : DdiskDisk) = d0 := by first | rfl | (first | (rw [sync_bad (by assumption)] <;> rfl) | (rw [sync_off (by assumption) (by assumption)] <;> rfl) | (rw [sync_go (by assumption) (by assumption)] <;> rfl))
    refine ⟨?_, ?_⟩
    rotate_left
    · rw [hm0_]; exact (Ow.up w1_0 (hS_.1 _ (.head _)))
    all_goals (first | rfl | (first | (rw [sync_bad (by assumption)] <;> rfl) | (rw [sync_off (by assumption) (by assumption)] <;> rfl) | (rw [sync_go (by assumption) (by assumption)] <;> rfl)))
  · -- F
    refine VC.skip ?_
    refine outN ?_
    refine VC.seq ?_
    refine VC.rs ?_
    refine VO.mv ?_
    refine VO.call 1 rfl fnOk76 rfl rfl (fun W hW => dBurn_ok W (hW.at (i := 1) rfl) w1_0 (by assumption) bd) (fun v3 m3 hv3 => ?_)
    obtain ⟨rfl, w3_0⟩ := hv3
    have hfa4 := (burn_ok (show okD d0 by assumption))
    have hfa5 := (burn_w (show okD d0 by assumption))
    have hfa6 := (len_w (burnD d0).1)
    refine VO.y rfl (.notD rfl) ?_
    refine VO.k5 0 2 3 7 11 ?_
    refine VC.cond rfl (fun hc7 => ?_) (fun hc7 => ?_)
    · -- FT
      refine VC.rs ?_
      refine VO.as ?_
      refine VO.k5 0 2 3 7 11 ?_
      refine VC.ret ?_
      refine outR ?_
      refine ⟨_, _, res_run (rs := [.tmp 2]) rfl (.tmp rfl .nil), fun W_ hI => out_of (l := [m3]) hI [1] rfl rfl (mle_refl _) (fun hS_ => ?_)⟩
      dsimp only [packV]
      have hm0_ : ((dSync d0).1 : DdiskDisk) = (burnD d0).1 := by first | rfl | (first | (rw [sync_bad (by assumption)] <;> rfl) | (rw [sync_off (by assumption) (by assumption)] <;> rfl) | (rw [sync_go (by assumption) (by assumption)] <;> rfl))
      refine ⟨?_, ?_⟩
      rotate_left
      · rw [hm0_]; exact (Ow.up w3_0 (hS_.1 _ (.head _)))
      all_goals (first | rfl | (first | (rw [sync_bad (by assumption)] <;> rfl) | (rw [sync_off (by assumption) (by assumption)] <;> rfl) | (rw [sync_go (by assumption) (by assumption)] <;> rfl)))
    · -- FF
      refine VC.skip ?_
      refine outN ?_
      refine VC.rs ?_
      refine VO.mv ?_
      refine VO.mv ?_
      refine VO.y rfl (.nilp rfl) ?_
      refine VO.y rfl (.fa rfl tst62 rfl) ?_
      obtain ⟨q8_E, q8_A5, q8_c5, q8_A6, q8_c6, q8_A7, q8_c7, q8_A8, q8_c8, q8_A9, q8_c9, q8_n5, q8_n6, q8_n7, q8_n8, q8_n9, _, q8_S, q8_3, q8_4, q8_5, q8_6, q8_7, q8_8, q8_9⟩ := openP_diskDisk (x0 := ((burnD d0).1).1) (x1 := ((burnD d0).1).2.1) (x2 := ((burnD d0).1).2.2.1) (x3 := ((burnD d0).1).2.2.2.1) (x4 := ((burnD d0).1).2.2.2.2.1) (x5 := (((burnD d0).1).2.2.2.2.2.1).1) (x6 := (((burnD d0).1).2.2.2.2.2.1).2.1) (x7 := (((burnD d0).1).2.2.2.2.2.1).2.2.1) (x8 := (((burnD d0).1).2.2.2.2.2.1).2.2.2) (x9 := ((burnD d0).1).2.2.2.2.2.2) w3_0
      simp only [inK] at q8_3
      simp only [inK] at q8_4
      have q8_r5 := q8_5.rm
      have q8_r6 := q8_6.rm
      have q8_r7 := q8_7.rm
      have q8_r8 := q8_8.rm
      have q8_r9 := q8_9.rm
      refine VO.inv _ (fun _ h => h.parts (i := 1) rfl q8_S [114, 109, 110, 111, 112, 113]) ?_
      refine VO.y rfl (.ld1 114 rfl tk60 rfl (cellsAt_one rfl rfl)) ?_
      refine VO.y rfl (.lenS rfl tsl60) ?_
      refine VO.clsP 116 [114, 109, 110, 111, 112, 113] rfl (fun hg16 => (show Ow (.ptr TdiskDisk) _ _ (_, ((burnD d0).1)) from (mkP_diskDisk (((burnD d0).1).1) (((burnD d0).1).2.1) (((burnD d0).1).2.2.1) (((burnD d0).1).2.2.2.1) (((burnD d0).1).2.2.2.2.1) ((((burnD d0).1).2.2.2.2.2.1).1) ((((burnD d0).1).2.2.2.2.2.1).2.1) ((((burnD d0).1).2.2.2.2.2.1).2.2.1) ((((burnD d0).1).2.2.2.2.2.1).2.2.2) (((burnD d0).1).2.2.2.2.2.2) hg16 bdk bdk (OwnL.ow (Ow.ownl q8_5 rfl mnil) rfl) (OwnL.ow (Ow.ownl q8_6 rfl mnil) rfl) (OwnL.ow (Ow.ownl q8_7 rfl mnil) rfl) (OwnL.ow (Ow.ownl q8_8 rfl mnil) rfl) q8_9))) (fun mc16 ho16 => ?_)
      refine VO.call 116 rfl fnOk70 rfl rfl (fun W hW => dSettle_ok W (hW.at (i := 116) rfl) ho16 (((((burnD d0).1).2.2.2.2.2.2).length : Nat) : Int) bdk (by assumption) bd bd) (fun v15 m15 hv15 => ?_)
      obtain ⟨rfl, w15_0⟩ := hv15
      have hfa17 := (settle_ok (((((burnD d0).1).2.2.2.2.2.2).length : Nat) : Int).toNat (show okD ((burnD d0).1) by assumption))
      have hfa18 := (settle_w ((burnD d0).1) (((((burnD d0).1).2.2.2.2.2.2).length : Nat) : Int).toNat)
      refine VO.k5 0 2 3 7 11 ?_
      refine VC.rs ?_
      refine VO.as ?_
      refine VO.kp [116, 0] [(116, m15), (0, mout (wm W) (m0))] ?_
      refine VO.k5 0 2 3 7 11 ?_
      refine VC.ret ?_
      refine ⟨_, _, res_run (rs := [.tmp 2]) rfl (.tmp rfl .nil), fun W_ hI => out_of (l := [m15]) hI [116] rfl rfl (mle_refl _) (fun hS_ => ?_)⟩
      dsimp only [packV]
      have hm0_ : ((dSync d0).1 : DdiskDisk) = settleD ((burnD d0).1) (((((burnD d0).1).2.2.2.2.2.2).length : Nat) : Int).toNat := by first | rfl | (first | (rw [sync_bad (by assumption)] <;> rfl) | (rw [sync_off (by assumption) (by assumption)] <;> rfl) | (rw [sync_go (by assumption) (by assumption)] <;> rfl))
      refine ⟨?_, ?_⟩
      rotate_left
      · rw [hm0_]; exact (Ow.up w15_0 (hS_.1 _ (.head _)))
      all_goals (first | rfl | (first | (rw [sync_bad (by assumption)] <;> rfl) | (rw [sync_off (by assumption) (by assumption)] <;> rfl) | (rw [sync_go (by assumption) (by assumption)] <;> rfl)))
theorem dRead_ok (W : World) {m0 : Mem} (hm : mle (m0) (wm W)) {g0 : Nat} {d0 : DdiskDisk} (h0 : Ow (.ptr TdiskDisk) m0 [.pointer (some ⟨g0, 0, none⟩)] (g0, d0)) (d1 : Int) (h1 : inK .i64 d1) (e0 : okD d0) (e1 : wD d0 ≤ 1000000000000) : CallR Try.prog 38 [.pointer (some ⟨g0, 0, none⟩), .int .i64 d1] W (m0) (fun v m' => ∃ (s0 : Value), ∃ (p0 : Mem), ∃ (p1 : Mem), v = .tuple #[s0, .int .i64 ((dRead d0 d1).2)] ∧ Seps m' [p0, p1] ∧ Ow (.sl .byte) p0 [s0] ((dRead d0 d1).1) ∧ Ow (.ptr TdiskDisk) p1 [.pointer (some ⟨g0, 0, none⟩)] (g0, d0)) := by
  have h1' := h1; simp only [inK] at h1'
  refine CallR.ofB (n := 18) hm Try.func38 rfl rfl rfl ?_
  refine VC.rs ?_
  refine VO.as ?_
  refine VO.as ?_
  refine VO.k4 0 1 4 5 ?_
  refine VC.seq ?_
  refine VC.rs ?_
  refine VO.mv ?_
  refine VO.call 1 rfl fnOk65 rfl rfl (fun W hW => dWrong_ok W (hW.at (i := 1) rfl) h0) (fun v1 m1 hv1 => ?_)
  obtain ⟨rfl, w1_0⟩ := hv1
  refine VO.as ?_
  refine VO.k5 0 1 4 5 6 ?_
  refine VC.rs ?_
  refine VO.mv ?_
  refine VO.y rfl (.neq rfl rfl) ?_
  refine VO.kp [1, 0] [(1, m1), (0, mout (wm W) (m0))] ?_
  refine VO.k6 0 1 4 5 6 10 ?_
  refine VC.cond rfl (fun hc2 => ?_) (fun hc2 => ?_)
  · -- T
    refine VC.rs ?_
    refine VO.mv ?_
    refine VO.as ?_
    refine VO.as ?_
    refine VO.k6 0 1 4 5 6 10 ?_
    refine VC.ret ?_
    refine outR ?_
    refine ⟨_, _, res_run (rs := [.tmp 4, .tmp 5]) rfl (.tmp rfl (.tmp rfl .nil)), fun W_ hI => out_of (l := [m1]) hI [1] rfl rfl (mle_refl _) (fun hS_ => ?_)⟩
    dsimp only [packV]
    have he0 : ((dRead d0 d1).1 : Ty.Den (.sl .byte)) = [] := by first | rfl | (first | rfl | (simp [dRead, *]; done))
    have hm0_ : (d0 : DdiskDisk) = d0 := by first | rfl | (first | rfl | (simp [dRead, *]; done))
    refine ⟨Value.slice none (0) (0), muns [], muns [m1], ?_, ?_, ?_, ?_⟩
    rotate_left
    · exact Seps.grp (ls := [[], [m1]]) hS_
    · rw [he0]; exact (Ow.nil _ _)
    · rw [hm0_]; exact (Ow.up w1_0 ((Seps.self hS_ (List.Sublist.cons_cons _ List.Sublist.slnil)).1 _ (.head _)))
    all_goals (first | rfl | (first | rfl | (simp [dRead, *]; done)))
  · -- F
    refine VC.skip ?_
    refine outN ?_
    refine VC.seq ?_
    refine VC.rs ?_
    refine VO.mv ?_
    refine VO.callN 103 rfl fnOk73 rfl (fun W hW => dIs_ok W d1 bdk) (fun v3 m3 hv3 => ?_)
    subst hv3
    refine VO.y rfl (.notD rfl) ?_
    refine VO.k7 0 1 4 5 6 10 14 ?_
    refine VC.cond rfl (fun hc4 => ?_) (fun hc4 => ?_)
    · -- FT
      refine VC.rs ?_
      refine VO.as ?_
      refine VO.as ?_
      refine VO.k7 0 1 4 5 6 10 14 ?_
      refine VC.ret ?_
      refine outR ?_
      refine ⟨_, _, res_run (rs := [.tmp 4, .tmp 5]) rfl (.tmp rfl (.tmp rfl .nil)), fun W_ hI => out_of (l := [m1]) hI [1] rfl rfl (mle_refl _) (fun hS_ => ?_)⟩
      dsimp only [packV]
      have he0 : ((dRead d0 d1).1 : Ty.Den (.sl .byte)) = [] := by first | rfl | (first | rfl | (simp [dRead, *]; done))
      have hm0_ : (d0 : DdiskDisk) = d0 := by first | rfl | (first | rfl | (simp [dRead, *]; done))
      refine ⟨Value.slice none (0) (0), muns [], muns [m1], ?_, ?_, ?_, ?_⟩
      rotate_left
      · exact Seps.grp (ls := [[], [m1]]) hS_
      · rw [he0]; exact (Ow.nil _ _)
      · rw [hm0_]; exact (Ow.up w1_0 ((Seps.self hS_ (List.Sublist.cons_cons _ List.Sublist.slnil)).1 _ (.head _)))
      all_goals (first | rfl | (first | rfl | (simp [dRead, *]; done)))
    · -- FF
      refine VC.skip ?_
      refine outN ?_
      refine VC.rs ?_
      refine VO.mv ?_
      refine VO.mv ?_
      refine VO.call 1 rfl fnOk74 rfl rfl (fun W hW => dHeld_ok W (hW.at (i := 1) rfl) w1_0 d1 bdk (by assumption) bd (by first | assumption | (apply Decidable.not_not.1; assumption))) (fun v5 m5 hv5 => ?_)
      obtain ⟨s5_0, p5_0, p5_1, rfl, hS5, f5_0, w5_0⟩ := hv5
      refine VO.inv _ (fun _ h => h.parts (i := 1) rfl hS5 [106, 107]) ?_
      have hfa8 := heldB_size d0.2.2.2.2.2.1 d0.2.2.2.2.2.2 d1
      obtain ⟨A5_0, c5_0, eq5_0, l5_0, k5_0⟩ := f5_0.slice
      subst eq5_0
      simp only [maxLen] at k5_0
      refine VO.as ?_
      refine VO.as ?_
      refine VO.k7 0 1 4 5 6 10 14 ?_
      refine VC.ret ?_
      refine ⟨_, _, res_run (rs := [.tmp 4, .tmp 5]) rfl (.tmp rfl (.tmp rfl .nil)), fun W_ hI => out_of (l := [p5_0, p5_1]) hI [106, 107] rfl rfl (mle_refl _) (fun hS_ => ?_)⟩
      dsimp only [packV]
      have he0 : ((dRead d0 d1).1 : Ty.Den (.sl .byte)) = heldB d0.2.2.2.2.2.1 d0.2.2.2.2.2.2 d1 := by first | rfl | (first | rfl | (simp [dRead, *]; done))
      have hm0_ : (d0 : DdiskDisk) = d0 := by first | rfl | (first | rfl | (simp [dRead, *]; done))
      refine ⟨Value.slice A5_0 ((heldB d0.2.2.2.2.2.1 d0.2.2.2.2.2.2 d1).length) (c5_0), muns [p5_0], muns [p5_1], ?_, ?_, ?_, ?_⟩
      rotate_left
      · exact Seps.grp (ls := [[p5_0], [p5_1]]) hS_
      · rw [he0]; exact (Ow.up (OwnL.ow (Ow.ownl f5_0 rfl mnil) rfl) ((Seps.self hS_ (List.Sublist.cons_cons _ (List.Sublist.cons _ List.Sublist.slnil))).1 _ (.head _)))
      · rw [hm0_]; exact (Ow.up w5_0 ((Seps.self hS_ (List.Sublist.cons _ (List.Sublist.cons_cons _ List.Sublist.slnil))).1 _ (.head _)))
      all_goals (first | rfl | (first | rfl | (simp [dRead, *]; done)))
theorem dOn_ok (W : World) {m0 : Mem} (hm : mle (m0) (wm W)) {g0 : Nat} {d0 : DdiskDisk} (h0 : Ow (.ptr TdiskDisk) m0 [.pointer (some ⟨g0, 0, none⟩)] (g0, d0)) : CallR Try.prog 32 [.pointer (some ⟨g0, 0, none⟩)] W (m0) (fun v m' => v = .bool (decide (d0.1 = true ∧ d0.2.1 = false)) ∧ Ow (.ptr TdiskDisk) m' [.pointer (some ⟨g0, 0, none⟩)] (g0, d0)) := by
  refine CallR.ofB (n := 13) hm Try.func32 rfl rfl rfl ?_
  refine VC.rs ?_
  refine VO.as ?_
  refine VO.k2 0 2 ?_
  refine VC.rs ?_
  refine VO.mv ?_
  refine VO.call 1 rfl fnOk69 rfl rfl (fun W hW => dNone_ok W (hW.at (i := 1) rfl) h0) (fun v1 m1 hv1 => ?_)
  obtain ⟨rfl, w1_0⟩ := hv1
  refine VO.y rfl (.notD rfl) ?_
  refine VO.mv ?_
  refine VO.dec (t := 6) rfl (fun hc2 => ?_) (fun hc2 => ?_)
  · -- T
    refine VO.gy rfl ⟨_, rfl, rfl⟩ (.mv rfl) ?_
    refine VO.gy rfl ⟨_, rfl, rfl⟩ (.nilp rfl) ?_
    refine VO.gy rfl ⟨_, rfl, rfl⟩ (.fa rfl tst62 rfl) ?_
    obtain ⟨q3_E, q3_A5, q3_c5, q3_A6, q3_c6, q3_A7, q3_c7, q3_A8, q3_c8, q3_A9, q3_c9, q3_n5, q3_n6, q3_n7, q3_n8, q3_n9, _, q3_S, q3_3, q3_4, q3_5, q3_6, q3_7, q3_8, q3_9⟩ := openP_diskDisk (x0 := d0.1) (x1 := d0.2.1) (x2 := d0.2.2.1) (x3 := d0.2.2.2.1) (x4 := d0.2.2.2.2.1) (x5 := d0.2.2.2.2.2.1.1) (x6 := d0.2.2.2.2.2.1.2.1) (x7 := d0.2.2.2.2.2.1.2.2.1) (x8 := d0.2.2.2.2.2.1.2.2.2) (x9 := d0.2.2.2.2.2.2) w1_0
    simp only [inK] at q3_3
    simp only [inK] at q3_4
    have q3_r5 := q3_5.rm
    have q3_r6 := q3_6.rm
    have q3_r7 := q3_7.rm
    have q3_r8 := q3_8.rm
    have q3_r9 := q3_9.rm
    refine VO.inv _ (fun _ h => h.parts (i := 1) rfl q3_S [109, 104, 105, 106, 107, 108]) ?_
    refine VO.gy rfl ⟨_, rfl, rfl⟩ (.ld1 109 rfl tk4 rfl (cellsAt_one rfl rfl)) ?_
    refine VO.gy rfl ⟨_, rfl, rfl⟩ (.not rfl) ?_
    refine VO.y rfl (.pT rfl rfl) ?_
    refine VO.as ?_
    refine VO.clsP 110 [109, 104, 105, 106, 107, 108] rfl (fun hg10 => (show Ow (.ptr TdiskDisk) _ _ (_, d0) from (mkP_diskDisk d0.1 d0.2.1 d0.2.2.1 d0.2.2.2.1 d0.2.2.2.2.1 d0.2.2.2.2.2.1.1 d0.2.2.2.2.2.1.2.1 d0.2.2.2.2.2.1.2.2.1 d0.2.2.2.2.2.1.2.2.2 d0.2.2.2.2.2.2 hg10 bdk bdk (OwnL.ow (Ow.ownl q3_5 rfl mnil) rfl) (OwnL.ow (Ow.ownl q3_6 rfl mnil) rfl) (OwnL.ow (Ow.ownl q3_7 rfl mnil) rfl) (OwnL.ow (Ow.ownl q3_8 rfl mnil) rfl) q3_9))) (fun mc10 ho10 => ?_)
    refine VO.k2 0 2 ?_
    refine VC.ret ?_
    refine ⟨_, _, res_run (rs := [.tmp 2]) rfl (.tmp rfl .nil), fun W_ hI => out_of (l := [mc10]) hI [110] rfl rfl (mle_refl _) (fun hS_ => ?_)⟩
    dsimp only [packV]
    have hm0_ : (d0 : DdiskDisk) = d0 := by first | rfl | (simp [*]; done)
    refine ⟨?_, ?_⟩
    rotate_left
    · rw [hm0_]; exact (Ow.up ho10 (hS_.1 _ (.head _)))
    all_goals (first | rfl | (cases h1_ : d0.1 <;> cases h2_ : d0.2.1 <;> simp_all))
  · -- F
    refine VO.gN ?_
    refine VO.gN ?_
    refine VO.gN ?_
    refine VO.gN ?_
    refine VO.gN ?_
    refine VO.y rfl (.pF rfl rfl) ?_
    refine VO.as ?_
    refine VO.k2 0 2 ?_
    refine VC.ret ?_
    refine ⟨_, _, res_run (rs := [.tmp 2]) rfl (.tmp rfl .nil), fun W_ hI => out_of (l := [m1]) hI [1] rfl rfl (mle_refl _) (fun hS_ => ?_)⟩
    dsimp only [packV]
    have hm0_ : (d0 : DdiskDisk) = d0 := by first | rfl | (simp [*]; done)
    refine ⟨?_, ?_⟩
    rotate_left
    · rw [hm0_]; exact (Ow.up w1_0 (hS_.1 _ (.head _)))
    all_goals (first | rfl | (cases h1_ : d0.1 <;> cases h2_ : d0.2.1 <;> simp_all))
abbrev TrunRuns : Ty := .pair (.ptr TdiskDisk) (.pair .bool (.sl TRun))
abbrev DrunRuns := (Nat × DdiskDisk) × Bool × (List DRun)
theorem openO_runRuns {m : Mem} {cs : List Value} {x0 : Nat × DdiskDisk} {x1 : Bool} {x2 : List DRun} (h : Ow TrunRuns m cs (x0, x1, x2)) : ∃ (A2 : Option Addr), ∃ (c2 : Nat), ∃ (n0 : Mem), ∃ (n2 : Mem), cs = [(.pointer (some ⟨x0.1, 0, none⟩) : Value), .bool x1, .slice A2 x2.length c2] ∧ Seps m [n0, n2] ∧ Ow (.ptr TdiskDisk) n0 [.pointer (some ⟨x0.1, 0, none⟩)] x0 ∧ Ow (.sl TRun) n2 [.slice A2 x2.length c2] x2 := by
  obtain ⟨p1, q1, ma1, mb1, rfl, dj1, la1, lb1, u1, w1⟩ := Ow.pair h
  have z2 := u1
  obtain ⟨rfl, _⟩ := u1
  obtain ⟨p3, q3, ma3, mb3, rfl, dj3, la3, lb3, u3, w3⟩ := Ow.pair w1
  obtain rfl := (show _ = _ from u3)
  have z5 := w3
  obtain ⟨A5, c5, rfl, _⟩ := Ow.slice1 w3
  exact ⟨A5, c5, _, _, rfl, (Seps.app dj1 la1 lb1 (Seps.one (mle_refl _)) (Seps.app dj3 la3 lb3 (Seps.nil _) (Seps.one (mle_refl _)))), z2, z5⟩
theorem mkO_runRuns {m : Mem} {n0 n2 : Mem} (x0 : Nat × DdiskDisk) (x1 : Bool) (x2 : List DRun) (hS : Seps m [n0, n2]) {v0 : Value} (h0 : Ow (.ptr TdiskDisk) n0 [v0] x0) {v2 : Value} (h2 : Ow (.sl TRun) n2 [v2] x2) : Ow TrunRuns m [v0, .bool x1, v2] (x0, x1, x2) := by
  obtain ⟨e1, la1, lb1, Sa1, Sb1⟩ := Seps.cut (l := [n0]) (r := [n2]) hS
  obtain ⟨e2, la2, lb2, Sa2, Sb2⟩ := Seps.cut (l := []) (r := [n2]) Sb1
  exact (Ow.mkPair (c1 := [_]) e1 la1 lb1 (h0.up (Sa1.1 _ (.head _))) (Ow.mkPair (c1 := [_]) e2 la2 lb2 (show Ow .bool _ [_] _ from rfl) (h2.up (Sb2.1 _ (.head _)))))
theorem openP_runRuns {m : Mem} {cs : List Value} {g : Nat} {x0 : Nat × DdiskDisk} {x1 : Bool} {x2 : List DRun} (h : Ow (.ptr TrunRuns) m cs (g, (x0, x1, x2))) : ∃ (E : TypeId), ∃ (A2 : Option Addr), ∃ (c2 : Nat), ∃ (n0 : Mem), ∃ (n2 : Mem), cs = [.pointer (some ⟨g, 0, none⟩)] ∧ Seps m [mone g (.cells [(.pointer (some ⟨x0.1, 0, none⟩) : Value), .bool x1, .slice A2 x2.length c2].toArray E (0, 0)), n0, n2] ∧ Ow (.ptr TdiskDisk) n0 [.pointer (some ⟨x0.1, 0, none⟩)] x0 ∧ Ow (.sl TRun) n2 [.slice A2 x2.length c2] x2 := by
  obtain ⟨rfl, rc, E, m1, hd, l0, l1, h1⟩ := Ow.opnP h
  obtain ⟨A2, c2, n0, n2, rfl, hS, f0, f2⟩ := openO_runRuns h1
  exact ⟨E, A2, c2, n0, n2, rfl, Seps.app hd l0 l1 (Seps.one (mle_refl _)) hS, f0, f2⟩
theorem mkP_runRuns {m : Mem} {g : Nat} {E : TypeId} {n0 n2 : Mem}{v0 : Value}{v2 : Value} (x0 : Nat × DdiskDisk) (x1 : Bool) (x2 : List DRun) (hS : Seps m [mone g (.cells [v0, .bool x1, v2].toArray E (0, 0)), n0, n2]) (h0 : Ow (.ptr TdiskDisk) n0 [v0] x0) (h2 : Ow (.sl TRun) n2 [v2] x2) : Ow (.ptr TrunRuns) m [.pointer (some ⟨g, 0, none⟩)] (g, (x0, x1, x2)) :=
  Ow.clsP hS fun hS => mkO_runRuns x0 x1 x2 hS h0 h2
abbrev DrunRuns0 := (Option Nat) × Bool × (List DRun)
theorem fnOk17 : fnOk Try.prog 17 = true := by kernel_rfl
theorem fnOk28 : fnOk Try.prog 28 = true := by kernel_rfl
theorem fnOk32 : fnOk Try.prog 32 = true := by kernel_rfl
theorem fnOk38 : fnOk Try.prog 38 = true := by kernel_rfl
theorem fnOk39 : fnOk Try.prog 39 = true := by kernel_rfl
theorem fnOk40 : fnOk Try.prog 40 = true := by kernel_rfl
theorem fnOk41 : fnOk Try.prog 41 = true := by kernel_rfl
theorem fnOk42 : fnOk Try.prog 42 = true := by kernel_rfl
theorem fnOk43 : fnOk Try.prog 43 = true := by kernel_rfl
theorem fnOk44 : fnOk Try.prog 44 = true := by kernel_rfl
theorem fnOk45 : fnOk Try.prog 45 = true := by kernel_rfl
theorem fnOk77 : fnOk Try.prog 77 = true := by kernel_rfl
theorem tk27 : tk Try.prog 27 = some none := by kernel_rfl
theorem tk47 : tk Try.prog 47 = some none := by kernel_rfl
theorem tst55 : tst Try.prog 55 = some [(0, 1), (1, 1), (2, 1)] := by kernel_rfl
theorem tz55 : tz Try.prog 55 = some [.pointer none, .bool false, .slice none 0 0] := by kernel_rfl
theorem uNone_ok (W : World) {l_ : List DRun} {br_ : Bool} {D_ : DdiskDisk} {gd_ : Nat} {m0 : Mem} (hm : mle (m0) (wm W)) {g0 : Nat} (h0 : Ow (.ptr TrunRuns) m0 [.pointer (some ⟨g0, 0, none⟩)] (g0, ((gd_, D_), br_, l_))) : CallR Try.prog 42 [.pointer (some ⟨g0, 0, none⟩)] W (m0) (fun v m' => v = .bool (decide (False)) ∧ Ow (.ptr TrunRuns) m' [.pointer (some ⟨g0, 0, none⟩)] (g0, ((gd_, D_), br_, l_))) := by
  refine CallR.ofB (n := 12) hm Try.func42 rfl rfl rfl ?_
  refine VC.rs ?_
  refine VO.as ?_
  refine VO.k2 0 2 ?_
  refine VC.rs ?_
  refine VO.mv ?_
  refine VO.y rfl (.pnil rfl rfl Try.underlying23 rfl) ?_
  refine VO.mv ?_
  refine VO.gy rfl ⟨_, rfl, rfl⟩ (.mv rfl) ?_
  refine VO.gy rfl ⟨_, rfl, rfl⟩ (.nilp rfl) ?_
  refine VO.gy rfl ⟨_, rfl, rfl⟩ (.fa rfl tst55 rfl) ?_
  obtain ⟨q1_E, q1_A2, q1_c2, q1_n0, q1_n2, _, q1_S, q1_0, q1_2⟩ := openP_runRuns (x0 := (gd_, D_)) (x1 := br_) (x2 := l_) h0
  dsimp only at q1_0
  have q1_r2 := q1_2.rm
  refine VO.inv _ (fun _ h => h.parts (i := 1) rfl q1_S [104, 102, 103]) ?_
  refine VO.gy rfl ⟨_, rfl, rfl⟩ (.ld1 104 rfl tk27 rfl (cellsAt_one rfl rfl)) ?_
  refine VO.gy rfl ⟨_, rfl, rfl⟩ (.pnil rfl rfl Try.underlying27 rfl) ?_
  refine VO.y rfl (.pF rfl rfl) ?_
  refine VO.as ?_
  refine VO.clsP 105 [104, 102, 103] rfl (fun hg5 => (mkP_runRuns (gd_, D_) br_ l_ hg5 q1_0 q1_2)) (fun mc5 ho5 => ?_)
  refine VO.k2 0 2 ?_
  refine VC.ret ?_
  refine ⟨_, _, res_run (rs := [.tmp 2]) rfl (.tmp rfl .nil), fun W_ hI => out_of (l := [mc5]) hI [105] rfl rfl (mle_refl _) (fun hS_ => ?_)⟩
  dsimp only [packV]
  have hm0_ : (((gd_, D_), br_, l_) : DrunRuns) = ((gd_, D_), br_, l_) := by first | rfl | (simp [*]; done)
  refine ⟨?_, ?_⟩
  rotate_left
  · rw [hm0_]; exact (Ow.up ho5 (hS_.1 _ (.head _)))
  all_goals (first | rfl | (simp [*]; done))
theorem uEnd_ok (W : World) {l_ : List DRun} {br_ : Bool} {D_ : DdiskDisk} {gd_ : Nat} {m0 : Mem} (hm : mle (m0) (wm W)) {g0 : Nat} (h0 : Ow (.ptr TrunRuns) m0 [.pointer (some ⟨g0, 0, none⟩)] (g0, ((gd_, D_), br_, l_))) (e0 : okU l_) : CallR Try.prog 28 [.pointer (some ⟨g0, 0, none⟩)] W (m0) (fun v m' => v = .int .i64 (endR l_) ∧ Ow (.ptr TrunRuns) m' [.pointer (some ⟨g0, 0, none⟩)] (g0, ((gd_, D_), br_, l_))) := by
  have hll := okU_len e0
  refine CallR.ofB (n := 26) hm Try.func28 rfl rfl rfl ?_
  refine VC.rs ?_
  refine VO.as ?_
  refine VO.k2 0 2 ?_
  refine VC.seq ?_
  refine VC.rs ?_
  refine VO.mv ?_
  refine VO.call 1 rfl fnOk42 rfl rfl (fun W hW => uNone_ok W (hW.at (i := 1) rfl) h0) (fun v1 m1 hv1 => ?_)
  try dsimp only at hv1
  obtain ⟨rfl, w1_0⟩ := hv1
  refine VO.mv ?_
  refine VO.dec (t := 5) rfl (fun hc2 => ?_) (fun hc2 => ?_)
  · -- T
    exact hc2.elim
  · -- F
    refine VO.gy rfl ⟨_, rfl, rfl⟩ (.mv rfl) ?_
    refine VO.gy rfl ⟨_, rfl, rfl⟩ (.nilp rfl) ?_
    refine VO.gy rfl ⟨_, rfl, rfl⟩ (.fa rfl tst55 rfl) ?_
    obtain ⟨q3_E, q3_A2, q3_c2, q3_n0, q3_n2, _, q3_S, q3_0, q3_2⟩ := openP_runRuns (x0 := (gd_, D_)) (x1 := br_) (x2 := l_) w1_0
    dsimp only at q3_0
    have q3_r2 := q3_2.rm
    refine VO.inv _ (fun _ h => h.parts (i := 1) rfl q3_S [106, 104, 105]) ?_
    refine VO.gy rfl ⟨_, rfl, rfl⟩ (.ld1 106 rfl tk47 rfl (cellsAt_one rfl rfl)) ?_
    refine VO.gy rfl ⟨_, rfl, rfl⟩ (.lenS rfl tsl47) ?_
    refine VO.gy rfl ⟨_, rfl, rfl⟩ (.eql rfl rfl) ?_
    refine VO.y rfl (.pF rfl rfl) ?_
    refine VO.clsP 107 [106, 104, 105] rfl (fun hg7 => (mkP_runRuns (gd_, D_) br_ l_ hg7 q3_0 q3_2)) (fun mc7 ho7 => ?_)
    refine VO.k3 0 2 12 ?_
    refine VC.cond rfl (fun hc8 => ?_) (fun hc8 => ?_)
    · -- FT
      refine VC.rs ?_
      refine VO.as ?_
      refine VO.kp [107, 0] [(107, mc7), (0, mout (wm W) (m0))] ?_
      refine VO.k3 0 2 12 ?_
      refine VC.ret ?_
      refine outR ?_
      refine ⟨_, _, res_run (rs := [.tmp 2]) rfl (.tmp rfl .nil), fun W_ hI => out_of (l := [mc7]) hI [107] rfl rfl (mle_refl _) (fun hS_ => ?_)⟩
      dsimp only [packV]
      have hm0_ : (((gd_, D_), br_, l_) : DrunRuns) = ((gd_, D_), br_, l_) := by first | rfl | (simp [*]; done)
      refine ⟨?_, ?_⟩
      rotate_left
      · rw [hm0_]; exact (Ow.up ho7 (hS_.1 _ (.head _)))
      all_goals (first | rfl | (first | exact congrArg (Value.int _) (endR_at ‹l_[_]? = some _› (by omega)).symm | exact congrArg (Value.int _) (endR_nil (by omega)).symm | exact congrArg (Value.int _) (endR_nil (not_not_intro (by assumption))).symm))
    · -- FF
      refine VC.skip ?_
      refine outN ?_
      refine VC.seq ?_
      obtain ⟨q9_E, q9_A2, q9_c2, q9_n0, q9_n2, _, q9_S, q9_0, q9_2⟩ := openP_runRuns (x0 := (gd_, D_)) (x1 := br_) (x2 := l_) ho7
      dsimp only at q9_0
      have q9_r2 := q9_2.rm
      refine VC.inv _ (fun _ h => h.parts (i := 107) rfl q9_S [112, 110, 111]) ?_
      refine VC.regD _ 10 [(0, true), (1, true), (2, true), (3, true), (4, true), (5, true), (6, true), (7, true), (8, true), (9, true)] follows (by kernel_rfl) (fun _ h => h.sub [112, 110, 111, 0]) ?_
      refine VD.y rfl rfl (.inl rfl) (.mv rfl) ?_
      refine VD.y rfl rfl (.inl rfl) (.nilp rfl) ?_
      refine VD.y rfl rfl (.inl rfl) (.fa rfl tst55 rfl) ?_
      refine VD.y rfl rfl (.inl rfl) (.ld1 112 rfl tk47 rfl (cellsAt_one rfl rfl)) ?_
      refine VD.y rfl rfl (.inl rfl) (.mv rfl) ?_
      refine VD.y rfl rfl (.inl rfl) (.nilp rfl) ?_
      refine VD.y rfl rfl (.inl rfl) (.fa rfl tst55 rfl) ?_
      refine VD.y rfl rfl (.inl rfl) (.ld1 112 rfl tk47 rfl (cellsAt_one rfl rfl)) ?_
      refine VD.y rfl rfl (.inl rfl) (.lenS rfl tsl47) ?_
      refine VD.y rfl rfl (.inl rfl) (.sub rfl rfl rfl ⟨bd, bd⟩) ?_
      refine VD.nil rfl ?_ rfl
      obtain ⟨x13, hx13⟩ : ∃ z_, (l_)[(((l_.length : Nat) : Int) - 1).toNat]? = some z_ := ⟨_, List.getElem?_eq_getElem bd⟩
      obtain ⟨gg13, oo13, ec13, ea13, hce13, hre13⟩ := (Ow.rd q9_2 (mle_refl _)).elem hx13
      cases ea13
      obtain ⟨q13_A2, q13_c2, rfl, q13_0, q13_1, q13_2⟩ := open_Run (x0 := x13.1) (x1 := x13.2.1) (x2 := x13.2.2) hre13
      simp only [inK] at q13_0
      simp only [inK] at q13_1
      have q13_r2 := Rd.room q13_2
      refine VO.y rfl (.ixI ((((l_.length : Nat) : Int) - 1).toNat) rfl rfl tsl47 bd bd) ?_
      refine VO.y rfl (.fa rfl tst32 rfl) ?_
      refine VO.y rfl (.ld1 111 rfl tk3 rfl (hce13.at1 (j := 1) rfl)) ?_
      refine VO.as ?_
      refine VO.clsP 114 [112, 110, 111] rfl (fun hg14 => (mkP_runRuns (gd_, D_) br_ l_ hg14 q9_0 q9_2)) (fun mc14 ho14 => ?_)
      refine VO.kp [114, 0] [(114, mc14), (0, mout (wm W) (m0))] ?_
      refine VO.k3 0 2 12 ?_
      refine outN ?_
      refine VC.ret ?_
      refine ⟨_, _, res_run (rs := [.tmp 2]) rfl (.tmp rfl .nil), fun W_ hI => out_of (l := [mc14]) hI [114] rfl rfl (mle_refl _) (fun hS_ => ?_)⟩
      dsimp only [packV]
      have hm0_ : (((gd_, D_), br_, l_) : DrunRuns) = ((gd_, D_), br_, l_) := by first | rfl | (simp [*]; done)
      refine ⟨?_, ?_⟩
      rotate_left
      · rw [hm0_]; exact (Ow.up ho14 (hS_.1 _ (.head _)))
      all_goals (first | rfl | (first | exact congrArg (Value.int _) (endR_at ‹l_[_]? = some _› (by omega)).symm | exact congrArg (Value.int _) (endR_nil (by omega)).symm | exact congrArg (Value.int _) (endR_nil (not_not_intro (by assumption))).symm))
theorem uCopied_ok (W : World) {v0 : List Value} {d0 : DRun} (h0 : Rd TRun (wm W) v0 d0) (e0 : d0.2.2.length ≤ 3518437208800) : CallR Try.prog 45 [.agg v0.toArray] W (mnil) (fun v m' => ∃ (s0 : List Value), v = .agg s0.toArray ∧ Ow TRun m' s0 (d0)) := by
  obtain ⟨p0_A2, p0_c2, rfl, p0_0, p0_1, p0_2⟩ := open_Run (x0 := d0.1) (x1 := d0.2.1) (x2 := d0.2.2) h0
  simp only [inK] at p0_0
  simp only [inK] at p0_1
  have p0_r2 := Rd.room p0_2
  refine CallR.ofA (n := 8) Try.func45 rfl rfl rfl ?_
  refine VC.rs ?_
  refine VO.box (cs := [Value.int .i64 (d0.1), Value.int .i64 (d0.2.1), Value.slice p0_A2 (d0.2.2.length) (p0_c2)]) 102 rfl rfl rfl (fun g1 => ?_)
  refine VO.alloc 104 rfl tz32 (fun g3 => ?_)
  refine VO.k3 0 1 2 ?_
  refine VC.rs ?_
  refine VO.y rfl (.fa rfl tst32 rfl) ?_
  refine VO.y rfl (.ld1 102 rfl tk30 rfl (cellsAt_one rfl rfl)) ?_
  refine VO.callN 105 rfl fnOk77 rfl (fun W hW => clone_ok W (Rd.mono p0_2 (hW.at (i := 0) rfl)) bd) (fun v5 m5 hv5 => ?_)
  obtain ⟨s5_0, rfl, f5_0⟩ := hv5
  obtain ⟨A5_0, c5_0, eq5_0, l5_0, k5_0⟩ := f5_0.slice
  subst eq5_0
  simp only [maxLen] at k5_0
  refine VO.y rfl (.fa rfl tst32 rfl) ?_
  refine VO.store (k := 1) (c' := [Value.int .i64 (d0.1), Value.int .i64 (d0.2.1), Value.slice A5_0 (d0.2.2.length) (c5_0)]) 102 rfl rfl (.inr ⟨tk30, rfl⟩) rfl rfl rfl rfl rfl ?_
  refine VO.k3 0 1 2 ?_
  refine VC.rs ?_
  refine VO.y rfl (.ldA 102 rfl tk32 rfl (cellsAt_one rfl rfl)) ?_
  refine VO.store (k := 3) (c' := [Value.int .i64 (d0.1), Value.int .i64 (d0.2.1), Value.slice A5_0 (d0.2.2.length) (c5_0)]) 104 rfl rfl (.inl tk32) rfl rfl rfl rfl rfl ?_
  refine VO.kp [105, 104, 102, 0] [(105, m5), (104, mone g3 (.cells [Value.int .i64 (d0.1), Value.int .i64 (d0.2.1), Value.slice A5_0 (d0.2.2.length) (c5_0)].toArray 32 (0, 0))), (102, mone g1 (.cells [Value.int .i64 (d0.1), Value.int .i64 (d0.2.1), Value.slice A5_0 (d0.2.2.length) (c5_0)].toArray 32 (0, 0))), (0, wm W)] ?_
  refine VO.k3 0 1 2 ?_
  refine VC.ret ?_
  refine ⟨_, _, res_run (rs := [.cell 2 32]) rfl (.agg 104 rfl tk32 rfl ⟨_, _, _, mone_self _ _, Nat.le_of_ble_eq_true rfl, rfl⟩ .nil), fun W_ hI => out_of (l := [m5]) hI [105] rfl rfl (mle_refl _) (fun hS_ => ?_)⟩
  dsimp only [packV]
  have he0 : (d0 : Ty.Den TRun) = d0 := by first | rfl | (simp [*]; done)
  refine ⟨[Value.int .i64 (d0.1), Value.int .i64 (d0.2.1), Value.slice A5_0 (d0.2.2.length) (c5_0)], ?_, ?_⟩
  rotate_left
  · rw [he0]; exact (show Ow TRun _ _ d0 from (mkO_Run d0.1 d0.2.1 d0.2.2 hS_ bdk bdk (OwnL.ow (Ow.ownl f5_0 rfl mnil) rfl)))
  all_goals (first | rfl | (simp [*]; done))
theorem fin0_uFlush_ok {P : Prop} (h : P := by first | (rw [flush_off (.inl (by assumption))] <;> first | rfl | done) | (rw [flush_off (.inr (by assumption))] <;> first | rfl | done) | (rw [flush_enc (by rintro (q_ | q_) <;> first | exact absurd (q_.symm.trans ‹br_ = false›) (by decide) | exact q_ (by assumption) | exact absurd q_ (by assumption) | simp_all) (by assumption)] <;> first | rfl | done) | (rw [flush_order (by rintro (q_ | q_) <;> first | exact absurd (q_.symm.trans ‹br_ = false›) (by decide) | exact q_ (by assumption) | exact absurd q_ (by assumption) | simp_all) (by assumption) (by assumption)] <;> first | rfl | done) | (rw [flush_write (by rintro (q_ | q_) <;> first | exact absurd (q_.symm.trans ‹br_ = false›) (by decide) | exact q_ (by assumption) | exact absurd q_ (by assumption) | simp_all) (by assumption) (by assumption) (by assumption)] <;> first | rfl | done) | (rw [flush_sync (by rintro (q_ | q_) <;> first | exact absurd (q_.symm.trans ‹br_ = false›) (by decide) | exact q_ (by assumption) | exact absurd q_ (by assumption) | simp_all) (by assumption) (by assumption) (by assumption) (by assumption)] <;> first | rfl | done) | (rw [flush_good (by rintro (q_ | q_) <;> first | exact absurd (q_.symm.trans ‹br_ = false›) (by decide) | exact q_ (by assumption) | exact absurd q_ (by assumption) | simp_all) (by assumption) (by assumption) (by assumption) (by assumption)] <;> first | rfl | done)) : P := h
theorem fin1_uFlush_ok {P : Prop} (h : P := by first | omega | (simp only [List.length_append, List.length_nil, List.length_cons, List.length_take, List.length_drop] at *; omega) | (have h_ := runCheck_ok (enc_zero ‹¬ ¬ (runEncode d1).2 = 0›).1; omega) | (have h_ := enc_flen ‹¬ ¬ (runEncode d1).2 = 0›; omega) | (have h_ := write_rng D_ 2 (fAppend [] (runEncode d1).1).1; omega)) : P := h
set_option maxHeartbeats 4000000 in
theorem uFlush_ok (W : World) {l_ : List DRun} {br_ : Bool} {D_ : DdiskDisk} {gd_ : Nat} {m0 : Mem} (hm : mle (m0) (wm W)) {g0 : Nat} (h0 : Ow (.ptr TrunRuns) m0 [.pointer (some ⟨g0, 0, none⟩)] (g0, ((gd_, D_), br_, l_))) {v1 : List Value} {d1 : DRun} (h1 : Rd TRun (mout (wm W) (m0)) v1 d1) (e0 : okD D_) (e1 : wD D_ + 200000 ≤ 1000000000000) (e2 : okU l_) : CallR Try.prog 11 [.pointer (some ⟨g0, 0, none⟩), .agg v1.toArray] W (m0) (fun v m' => v = .int .i64 ((uFlush D_ br_ l_ d1).2) ∧ Ow (.ptr TrunRuns) m' [.pointer (some ⟨g0, 0, none⟩)] (g0, ((gd_, (uFlush D_ br_ l_ d1).1.1), (uFlush D_ br_ l_ d1).1.2))) := by
  have hll := okU_len e2
  obtain ⟨p1_A2, p1_c2, rfl, p1_0, p1_1, p1_2⟩ := open_Run (x0 := d1.1) (x1 := d1.2.1) (x2 := d1.2.2) h1
  simp only [inK] at p1_0
  simp only [inK] at p1_1
  have p1_r2 := Rd.room p1_2
  refine CallR.ofB (n := 76) hm Try.func11 rfl rfl rfl ?_
  refine VC.rs ?_
  refine VO.box (cs := [Value.int .i64 (d1.1), Value.int .i64 (d1.2.1), Value.slice p1_A2 (d1.2.2.length) (p1_c2)]) 102 rfl rfl rfl (fun g1 => ?_)
  refine VO.as ?_
  refine VO.k4 0 1 3 4 ?_
  refine VC.seq ?_
  refine VC.rs ?_
  refine VO.mv ?_
  refine VO.call 1 rfl fnOk42 rfl rfl (fun W hW => uNone_ok W (hW.at (i := 1) rfl) h0) (fun v3 m3 hv3 => ?_)
  try dsimp only at hv3
  obtain ⟨rfl, w3_0⟩ := hv3
  refine VO.k5 0 1 3 4 9 ?_
  refine VC.cond rfl (fun hc4 => ?_) (fun hc4 => ?_)
  · -- T
    exact hc4.elim
  · -- F
    refine VC.skip ?_
    refine outN ?_
    refine VC.seq ?_
    refine VC.rs ?_
    refine VO.mv ?_
    refine VO.y rfl (.nilp rfl) ?_
    refine VO.y rfl (.fa rfl tst55 rfl) ?_
    obtain ⟨q5_E, q5_A2, q5_c2, q5_n0, q5_n2, _, q5_S, q5_0, q5_2⟩ := openP_runRuns (x0 := (gd_, D_)) (x1 := br_) (x2 := l_) w3_0
    dsimp only at q5_0
    have q5_r2 := q5_2.rm
    refine VO.inv _ (fun _ h => h.parts (i := 1) rfl q5_S [108, 106, 107]) ?_
    refine VO.y rfl (.ld1 108 rfl tk4 rfl (cellsAt_one rfl rfl)) ?_
    refine VO.mv ?_
    refine VO.decB (t := 14) rfl (fun hc9 => ?_) (fun hc9 => ?_)
    · -- FT
      refine VO.gN ?_
      refine VO.gN ?_
      refine VO.gN ?_
      refine VO.gN ?_
      refine VO.gN ?_
      refine VO.gN ?_
      refine VO.y rfl (.pT rfl rfl) ?_
      refine VO.clsP 110 [108, 106, 107] rfl (fun hg10 => (mkP_runRuns (gd_, D_) br_ l_ hg10 q5_0 q5_2)) (fun mc10 ho10 => ?_)
      refine VO.kp [110, 102, 0] [(110, mc10), (102, mone g1 (.cells [Value.int .i64 (d1.1), Value.int .i64 (d1.2.1), Value.slice p1_A2 (d1.2.2.length) (p1_c2)].toArray 32 (0, 0))), (0, mout (wm W) (m0))] ?_
      refine VO.k6 0 1 3 4 9 21 ?_
      refine VC.condT rfl ?_
      refine VC.rs ?_
      refine VO.mv ?_
      refine VO.y rfl (.nilp rfl) ?_
      refine VO.y rfl (.fa rfl tst55 rfl) ?_
      obtain ⟨q11_E, q11_A2, q11_c2, q11_n0, q11_n2, _, q11_S, q11_0, q11_2⟩ := openP_runRuns (x0 := (gd_, D_)) (x1 := br_) (x2 := l_) ho10
      dsimp only at q11_0
      have q11_r2 := q11_2.rm
      refine VO.inv _ (fun _ h => h.parts (i := 110) rfl q11_S [114, 112, 113]) ?_
      refine VO.store (k := 1) (c' := [Value.pointer (some ⟨gd_, 0, none⟩), Value.bool true, Value.slice q11_A2 (l_.length) (q11_c2)]) 114 rfl rfl (.inr ⟨tk4, rfl⟩) rfl rfl rfl rfl rfl ?_
      refine VO.clsP 115 [114, 112, 113] rfl (fun hg15 => (mkP_runRuns (gd_, D_) true l_ hg15 q11_0 q11_2)) (fun mc15 ho15 => ?_)
      refine VO.k6 0 1 3 4 9 21 ?_
      refine VC.rs ?_
      refine VO.as ?_
      refine VO.k6 0 1 3 4 9 21 ?_
      refine VC.ret ?_
      refine outR ?_
      refine ⟨_, _, res_run (rs := [.tmp 4]) rfl (.tmp rfl .nil), fun W_ hI => out_of (l := [mc15]) hI [115] rfl rfl (mle_refl _) (fun hS_ => ?_)⟩
      dsimp only [packV]
      have hm0_ : (((gd_, (uFlush D_ br_ l_ d1).1.1), (uFlush D_ br_ l_ d1).1.2) : DrunRuns) = ((gd_, D_), true, l_) := by first | rfl | (exact fin0_uFlush_ok)
      refine ⟨?_, ?_⟩
      rotate_left
      · rw [hm0_]; exact (Ow.up ho15 (hS_.1 _ (.head _)))
      all_goals (first | rfl | (exact fin0_uFlush_ok))
    · -- FF
      refine VO.gy rfl ⟨_, rfl, rfl⟩ (.mv rfl) ?_
      refine VO.gy rfl ⟨_, rfl, rfl⟩ (.nilp rfl) ?_
      refine VO.gy rfl ⟨_, rfl, rfl⟩ (.fa rfl tst55 rfl) ?_
      refine VO.gy rfl ⟨_, rfl, rfl⟩ (.ld1 108 rfl tk27 rfl (cellsAt_one rfl rfl)) ?_
      refine VO.gcall 106 rfl ⟨_, rfl, rfl⟩ fnOk32 rfl rfl (fun W hW => dOn_ok W (hW.at (i := 106) rfl) q5_0) (fun v16 m16 hv16 => ?_)
      obtain ⟨rfl, w16_0⟩ := hv16
      refine VO.gy rfl ⟨_, rfl, rfl⟩ (.notD rfl) ?_
      refine VO.y rfl (.pF rfl rfl) ?_
      refine VO.clsP 117 [108, 106, 107] rfl (fun hg17 => (mkP_runRuns (gd_, D_) br_ l_ hg17 w16_0 q5_2)) (fun mc17 ho17 => ?_)
      refine VO.kp [117, 102, 0] [(117, mc17), (102, mone g1 (.cells [Value.int .i64 (d1.1), Value.int .i64 (d1.2.1), Value.slice p1_A2 (d1.2.2.length) (p1_c2)].toArray 32 (0, 0))), (0, mout (wm W) (m0))] ?_
      refine VO.k6 0 1 3 4 9 21 ?_
      refine VC.cond rfl (fun hc18 => ?_) (fun hc18 => ?_)
      · -- FFT
        refine VC.rs ?_
        refine VO.mv ?_
        refine VO.y rfl (.nilp rfl) ?_
        refine VO.y rfl (.fa rfl tst55 rfl) ?_
        obtain ⟨q19_E, q19_A2, q19_c2, q19_n0, q19_n2, _, q19_S, q19_0, q19_2⟩ := openP_runRuns (x0 := (gd_, D_)) (x1 := br_) (x2 := l_) ho17
        dsimp only at q19_0
        have q19_r2 := q19_2.rm
        refine VO.inv _ (fun _ h => h.parts (i := 117) rfl q19_S [122, 120, 121]) ?_
        refine VO.store (k := 1) (c' := [Value.pointer (some ⟨gd_, 0, none⟩), Value.bool true, Value.slice q19_A2 (l_.length) (q19_c2)]) 122 rfl rfl (.inr ⟨tk4, rfl⟩) rfl rfl rfl rfl rfl ?_
        refine VO.clsP 123 [122, 120, 121] rfl (fun hg23 => (mkP_runRuns (gd_, D_) true l_ hg23 q19_0 q19_2)) (fun mc23 ho23 => ?_)
        refine VO.k6 0 1 3 4 9 21 ?_
        refine VC.rs ?_
        refine VO.as ?_
        refine VO.k6 0 1 3 4 9 21 ?_
        refine VC.ret ?_
        refine outR ?_
        refine ⟨_, _, res_run (rs := [.tmp 4]) rfl (.tmp rfl .nil), fun W_ hI => out_of (l := [mc23]) hI [123] rfl rfl (mle_refl _) (fun hS_ => ?_)⟩
        dsimp only [packV]
        have hm0_ : (((gd_, (uFlush D_ br_ l_ d1).1.1), (uFlush D_ br_ l_ d1).1.2) : DrunRuns) = ((gd_, D_), true, l_) := by first | rfl | (exact fin0_uFlush_ok)
        refine ⟨?_, ?_⟩
        rotate_left
        · rw [hm0_]; exact (Ow.up ho23 (hS_.1 _ (.head _)))
        all_goals (first | rfl | (exact fin0_uFlush_ok))
      · -- FFF
        refine VC.skip ?_
        refine outN ?_
        refine VC.rs ?_
        refine VO.y rfl (.ldA 102 rfl tk32 rfl (cellsAt_one rfl rfl)) ?_
        refine VO.callN 124 rfl fnOk17 rfl (fun W hW => runEncode_ok W (Rd.mono h1 (hW.at (i := 0) rfl))) (fun v24 m24 hv24 => ?_)
        obtain ⟨s24_0, rfl, f24_0⟩ := hv24
        have hfa25 := runEncode_len d1
        obtain ⟨A24_0, c24_0, eq24_0, l24_0, k24_0⟩ := f24_0.slice
        subst eq24_0
        simp only [maxLen] at k24_0
        refine VO.mv ?_
        refine VO.y rfl (.ext rfl rfl) ?_
        refine VO.y rfl (.ext rfl rfl) ?_
        refine VO.as ?_
        refine VO.as ?_
        refine VO.k8 0 1 3 4 5 6 9 21 ?_
        refine VC.seq ?_
        refine VC.rs ?_
        refine VO.mv ?_
        refine VO.y rfl (.neq rfl rfl) ?_
        refine VO.k9 0 1 3 4 5 6 9 21 31 ?_
        refine VC.cond rfl (fun hc26 => ?_) (fun hc26 => ?_)
        · -- FFFT
          refine VC.rs ?_
          refine VO.mv ?_
          refine VO.as ?_
          refine VO.kp [124, 117, 102, 0] [(124, m24), (117, mc17), (102, mone g1 (.cells [Value.int .i64 (d1.1), Value.int .i64 (d1.2.1), Value.slice p1_A2 (d1.2.2.length) (p1_c2)].toArray 32 (0, 0))), (0, mout (wm W) (m0))] ?_
          refine VO.k9 0 1 3 4 5 6 9 21 31 ?_
          refine VC.ret ?_
          refine outR ?_
          refine ⟨_, _, res_run (rs := [.tmp 4]) rfl (.tmp rfl .nil), fun W_ hI => out_of (l := [mc17]) hI [117] rfl rfl (mle_refl _) (fun hS_ => ?_)⟩
          dsimp only [packV]
          have hm0_ : (((gd_, (uFlush D_ br_ l_ d1).1.1), (uFlush D_ br_ l_ d1).1.2) : DrunRuns) = ((gd_, D_), br_, l_) := by first | rfl | (exact fin0_uFlush_ok)
          refine ⟨?_, ?_⟩
          rotate_left
          · rw [hm0_]; exact (Ow.up ho17 (hS_.1 _ (.head _)))
          all_goals (first | rfl | (exact fin0_uFlush_ok))
        · -- FFFF
          refine VC.skip ?_
          refine outN ?_
          refine VC.seq ?_
          refine VC.seq ?_
          refine VC.regD _ 5 [(0, true), (1, true), (2, true), (3, false), (4, true)] follows (by kernel_rfl) (fun _ h => h.sub [124, 102, 0]) ?_
          refine VD.y rfl rfl (.inl rfl) (.fa rfl tst32 rfl) ?_
          refine VD.y rfl rfl (.inl rfl) (.ld1 102 rfl tk3 rfl (cellsAt_one rfl rfl)) ?_
          refine VD.y rfl rfl (.inl rfl) (.mv rfl) ?_
          refine VD.call 117 rfl rfl (.inl rfl) fnOk28 rfl rfl (fun _ _ h => h.sub [124, 102, 0]) (fun W hW => uEnd_ok W (hW.at (i := 117) rfl) ho17 (by assumption)) (fun v27 m27 hv27 => ?_)
          try dsimp only at hv27
          obtain ⟨rfl, w27_0⟩ := hv27
          refine VD.y rfl rfl (.inl rfl) (.add rfl rfl rfl ⟨by exact fin1_uFlush_ok, by exact fin1_uFlush_ok⟩) ?_
          refine VD.nil rfl ?_ rfl
          refine VO.y rfl (.neq rfl rfl) ?_
          refine VO.kp [117, 124, 102, 0] [(117, m27), (124, m24), (102, mone g1 (.cells [Value.int .i64 (d1.1), Value.int .i64 (d1.2.1), Value.slice p1_A2 (d1.2.2.length) (p1_c2)].toArray 32 (0, 0))), (0, mout (wm W) (m0))] ?_
          refine VO.k10 0 1 3 4 5 6 9 21 31 38 ?_
          refine outN ?_
          refine VC.cond rfl (fun hc28 => ?_) (fun hc28 => ?_)
          · -- FFFFT
            refine VC.rs ?_
            refine VO.as ?_
            refine VO.k10 0 1 3 4 5 6 9 21 31 38 ?_
            refine VC.ret ?_
            refine outR ?_
            refine ⟨_, _, res_run (rs := [.tmp 4]) rfl (.tmp rfl .nil), fun W_ hI => out_of (l := [m27]) hI [117] rfl rfl (mle_refl _) (fun hS_ => ?_)⟩
            dsimp only [packV]
            have hm0_ : (((gd_, (uFlush D_ br_ l_ d1).1.1), (uFlush D_ br_ l_ d1).1.2) : DrunRuns) = ((gd_, D_), br_, l_) := by first | rfl | (exact fin0_uFlush_ok)
            refine ⟨?_, ?_⟩
            rotate_left
            · rw [hm0_]; exact (Ow.up w27_0 (hS_.1 _ (.head _)))
            all_goals (first | rfl | (exact fin0_uFlush_ok))
          · -- FFFFF
            refine VC.skip ?_
            refine outN ?_
            refine VC.rs ?_
            refine VO.mv ?_
            refine VO.callN 129 rfl fnOk43 rfl (fun W hW => fAppend_ok W (Rd.nil _ _ none 0 (Nat.zero_le _)) (OwnL.rd (Ow.ownl f24_0 rfl mnil) (hW.at (i := 124) rfl) (mle_nil _)) (by exact fin1_uFlush_ok)) (fun v29 m29 hv29 => ?_)
            obtain ⟨s29_0, rfl, f29_0⟩ := hv29
            have hfa30 := fAppend_len [] ((runEncode d1).1)
            have hfa31 := fAppend_range [] ((runEncode d1).1)
            obtain ⟨A29_0, c29_0, eq29_0, l29_0, k29_0⟩ := f29_0.slice
            subst eq29_0
            simp only [maxLen] at k29_0
            refine VO.mv ?_
            refine VO.y rfl (.ext rfl rfl) ?_
            refine VO.y rfl (.ext rfl rfl) ?_
            refine VO.as ?_
            refine VO.as ?_
            refine VO.k11 0 1 3 4 5 6 7 9 21 31 38 ?_
            refine VC.seq ?_
            refine VC.rs ?_
            refine VO.mv ?_
            refine VO.y rfl (.eql rfl rfl) ?_
            refine VO.k12 0 1 3 4 5 6 7 9 21 31 38 45 ?_
            refine VC.cond rfl (fun hc32 => ?_) (fun hc32 => ?_)
            · -- FFFFFT
              refine VC.reg ?_
              refine VO.mv ?_
              refine VO.y rfl (.nilp rfl) ?_
              refine VO.y rfl (.fa rfl tst55 rfl) ?_
              obtain ⟨q33_E, q33_A2, q33_c2, q33_n0, q33_n2, _, q33_S, q33_0, q33_2⟩ := openP_runRuns (x0 := (gd_, D_)) (x1 := br_) (x2 := l_) w27_0
              dsimp only at q33_0
              have q33_r2 := q33_2.rm
              refine VO.inv _ (fun _ h => h.parts (i := 117) rfl q33_S [136, 134, 135]) ?_
              refine VO.y rfl (.ld1 136 rfl tk27 rfl (cellsAt_one rfl rfl)) ?_
              refine VO.mv ?_
              refine VO.call 134 rfl fnOk44 rfl rfl (fun W hW => dWrite_ok W (hW.at (i := 134) rfl) q33_0 2 (by simp only [inK]; (exact fin1_uFlush_ok)) (OwnL.rd (Ow.ownl f29_0 rfl mnil) (hW.out (i := 134) (j := 129) rfl rfl) (mle_nil _)) (by assumption) (by exact fin1_uFlush_ok)) (fun v37 m37 hv37 => ?_)
              obtain ⟨rfl, w37_0⟩ := hv37
              have hfa38 := (write_ok (f := 2) (b := ((fAppend [] ((runEncode d1).1)).1)) (show okD D_ by assumption))
              have hfa39 := (write_w (f := 2) (b := ((fAppend [] ((runEncode d1).1)).1)) (show okD D_ by assumption))
              refine VO.as ?_
              refine VO.clsP 140 [136, 134, 135] rfl (fun hg40 => (mkP_runRuns (gd_, (dWrite D_ 2 ((fAppend [] ((runEncode d1).1)).1)).1) br_ l_ hg40 w37_0 q33_2)) (fun mc40 ho40 => ?_)
              refine VO.kp [140, 129, 124, 102, 0] [(140, mc40), (129, m29), (124, m24), (102, mone g1 (.cells [Value.int .i64 (d1.1), Value.int .i64 (d1.2.1), Value.slice p1_A2 (d1.2.2.length) (p1_c2)].toArray 32 (0, 0))), (0, mout (wm W) (m0))] ?_
              refine VO.k12 0 1 3 4 5 6 7 9 21 31 38 45 ?_
              refine outN ?_
              refine VC.seq ?_
              refine VC.rs ?_
              refine VO.mv ?_
              refine VO.y rfl (.eql rfl rfl) ?_
              refine VO.k13 0 1 3 4 5 6 7 9 21 31 38 45 53 ?_
              refine VC.cond rfl (fun hc41 => ?_) (fun hc41 => ?_)
              · -- FFFFFTT
                refine VC.reg ?_
                refine VO.mv ?_
                refine VO.y rfl (.nilp rfl) ?_
                refine VO.y rfl (.fa rfl tst55 rfl) ?_
                obtain ⟨q42_E, q42_A2, q42_c2, q42_n0, q42_n2, _, q42_S, q42_0, q42_2⟩ := openP_runRuns (x0 := (gd_, (dWrite D_ 2 ((fAppend [] ((runEncode d1).1)).1)).1)) (x1 := br_) (x2 := l_) ho40
                dsimp only at q42_0
                have q42_r2 := q42_2.rm
                refine VO.inv _ (fun _ h => h.parts (i := 140) rfl q42_S [145, 143, 144]) ?_
                refine VO.y rfl (.ld1 145 rfl tk27 rfl (cellsAt_one rfl rfl)) ?_
                refine VO.call 143 rfl fnOk41 rfl rfl (fun W hW => dSync_ok W (hW.at (i := 143) rfl) q42_0 (by assumption) (by exact fin1_uFlush_ok)) (fun v46 m46 hv46 => ?_)
                obtain ⟨rfl, w46_0⟩ := hv46
                have hfa47 := (sync_ok (show okD ((dWrite D_ 2 ((fAppend [] ((runEncode d1).1)).1)).1) by assumption))
                have hfa48 := (sync_w (show okD ((dWrite D_ 2 ((fAppend [] ((runEncode d1).1)).1)).1) by assumption))
                refine VO.as ?_
                refine VO.clsP 149 [145, 143, 144] rfl (fun hg49 => (mkP_runRuns (gd_, (dSync ((dWrite D_ 2 ((fAppend [] ((runEncode d1).1)).1)).1)).1) br_ l_ hg49 w46_0 q42_2)) (fun mc49 ho49 => ?_)
                refine VO.k13 0 1 3 4 5 6 7 9 21 31 38 45 53 ?_
                refine outN ?_
                refine VC.seq ?_
                refine VC.rs ?_
                refine VO.mv ?_
                refine VO.y rfl (.neq rfl rfl) ?_
                refine VO.kp [149, 129, 124, 102, 0] [(149, mc49), (129, m29), (124, m24), (102, mone g1 (.cells [Value.int .i64 (d1.1), Value.int .i64 (d1.2.1), Value.slice p1_A2 (d1.2.2.length) (p1_c2)].toArray 32 (0, 0))), (0, mout (wm W) (m0))] ?_
                refine VO.k14 0 1 3 4 5 6 7 9 21 31 38 45 53 60 ?_
                refine VC.cond rfl (fun hc50 => ?_) (fun hc50 => ?_)
                · -- FFFFFTTT
                  refine VC.rs ?_
                  refine VO.mv ?_
                  refine VO.y rfl (.nilp rfl) ?_
                  refine VO.y rfl (.fa rfl tst55 rfl) ?_
                  obtain ⟨q51_E, q51_A2, q51_c2, q51_n0, q51_n2, _, q51_S, q51_0, q51_2⟩ := openP_runRuns (x0 := (gd_, (dSync ((dWrite D_ 2 ((fAppend [] ((runEncode d1).1)).1)).1)).1)) (x1 := br_) (x2 := l_) ho49
                  dsimp only at q51_0
                  have q51_r2 := q51_2.rm
                  refine VO.inv _ (fun _ h => h.parts (i := 149) rfl q51_S [154, 152, 153]) ?_
                  refine VO.store (k := 1) (c' := [Value.pointer (some ⟨gd_, 0, none⟩), Value.bool true, Value.slice q51_A2 (l_.length) (q51_c2)]) 154 rfl rfl (.inr ⟨tk4, rfl⟩) rfl rfl rfl rfl rfl ?_
                  refine VO.clsP 155 [154, 152, 153] rfl (fun hg55 => (mkP_runRuns (gd_, (dSync ((dWrite D_ 2 ((fAppend [] ((runEncode d1).1)).1)).1)).1) true l_ hg55 q51_0 q51_2)) (fun mc55 ho55 => ?_)
                  refine VO.k14 0 1 3 4 5 6 7 9 21 31 38 45 53 60 ?_
                  refine VC.rs ?_
                  refine VO.mv ?_
                  refine VO.as ?_
                  refine VO.k14 0 1 3 4 5 6 7 9 21 31 38 45 53 60 ?_
                  refine VC.ret ?_
                  refine outR ?_
                  refine ⟨_, _, res_run (rs := [.tmp 4]) rfl (.tmp rfl .nil), fun W_ hI => out_of (l := [mc55]) hI [155] rfl rfl (mle_refl _) (fun hS_ => ?_)⟩
                  dsimp only [packV]
                  have hm0_ : (((gd_, (uFlush D_ br_ l_ d1).1.1), (uFlush D_ br_ l_ d1).1.2) : DrunRuns) = ((gd_, (dSync ((dWrite D_ 2 ((fAppend [] ((runEncode d1).1)).1)).1)).1), true, l_) := by first | rfl | (exact fin0_uFlush_ok)
                  refine ⟨?_, ?_⟩
                  rotate_left
                  · rw [hm0_]; exact (Ow.up ho55 (hS_.1 _ (.head _)))
                  all_goals (first | rfl | (exact fin0_uFlush_ok))
                · -- FFFFFTTF
                  refine VC.skip ?_
                  refine outN ?_
                  refine VC.seq ?_
                  obtain ⟨q56_E, q56_A2, q56_c2, q56_n0, q56_n2, _, q56_S, q56_0, q56_2⟩ := openP_runRuns (x0 := (gd_, (dSync ((dWrite D_ 2 ((fAppend [] ((runEncode d1).1)).1)).1)).1)) (x1 := br_) (x2 := l_) ho49
                  dsimp only at q56_0
                  have q56_r2 := q56_2.rm
                  refine VC.inv _ (fun _ h => h.parts (i := 149) rfl q56_S [159, 157, 158]) ?_
                  refine VC.regD _ 9 [(0, true), (1, true), (2, true), (3, true), (4, true), (5, true), (6, false), (7, false), (8, false)] follows (by kernel_rfl) (fun _ h => h.sub [159, 157, 129, 124, 102, 0]) ?_
                  refine VD.y rfl rfl (.inl rfl) (.mv rfl) ?_
                  refine VD.y rfl rfl (.inl rfl) (.mv rfl) ?_
                  refine VD.y rfl rfl (.inl rfl) (.nilp rfl) ?_
                  refine VD.y rfl rfl (.inl rfl) (.fa rfl tst55 rfl) ?_
                  refine VD.y rfl rfl (.inl rfl) (.ld1 159 rfl tk47 rfl (cellsAt_one rfl rfl)) ?_
                  refine VD.y rfl rfl (.inl rfl) (.ldA 102 rfl tk32 rfl (cellsAt_one rfl rfl)) ?_
                  refine VD.callN 160 rfl rfl (.inl rfl) fnOk45 rfl (fun _ h => h.sub [159, 157, 129, 124, 102, 0]) (fun W hW => uCopied_ok W (Rd.mono h1 (hW.at (i := 0) rfl)) (by exact fin1_uFlush_ok)) (fun v60 m60 hv60 => ?_)
                  obtain ⟨s60_0, rfl, f60_0⟩ := hv60
                  obtain ⟨q60_0_A2, q60_0_c2, q60_0_n2, rfl, q60_0_S, q60_0_0, q60_0_1, q60_0_2⟩ := openO_Run (x0 := d1.1) (x1 := d1.2.1) (x2 := d1.2.2) f60_0
                  simp only [inK] at q60_0_0
                  simp only [inK] at q60_0_1
                  have q60_0_r2 := q60_0_2.rm
                  refine VD.inv _ (fun _ h => h.parts (i := 160) rfl q60_0_S [161]) ?_
                  refine VD.bsl (cs := [Value.int .i64 (d1.1), Value.int .i64 (d1.2.1), Value.slice q60_0_A2 (d1.2.2.length) (q60_0_c2)]) 163 rfl rfl rfl tsl47 tz32 rfl rfl (fun _ h => h.sub [159, 157, 129, 124, 102, 0]) (fun g62 => ?_)
                  refine VD.appO (e := TRun) 158 161 163 rfl rfl rfl rfl tsl47 tz32 rfl rfl rfl rfl q56_2 (show Ow TRun _ _ d1 from (mkO_Run d1.1 d1.2.1 d1.2.2 (Seps.one (mle_refl _)) (by simp only [inK]; (exact fin1_uFlush_ok)) (by simp only [inK]; (exact fin1_uFlush_ok)) (OwnL.ow (Ow.ownl q60_0_2 rfl mnil) rfl))) Try.underlying47 (cellsAt_one rfl rfl) (by simp only [maxLen]; (exact fin1_uFlush_ok)) (by exact fin1_uFlush_ok) (by decide) (fun _ _ h => h.sub [159, 157, 129, 124, 102, 0]) (fun v64 m64 ho64 => ?_)
                  obtain ⟨A64, c64, rfl, l64, k64⟩ := ho64.slice
                  simp only [maxLen] at k64
                  refine VD.nil rfl ?_ rfl
                  refine VO.y rfl (.nilp rfl) ?_
                  refine VO.y rfl (.fa rfl tst55 rfl) ?_
                  refine VO.store (k := 1) (c' := [Value.pointer (some ⟨gd_, 0, none⟩), Value.bool br_, Value.slice A64 ((l_ ++ [d1]).length) (c64)]) 159 rfl rfl (.inr ⟨tk47, rfl⟩) rfl rfl rfl rfl rfl ?_
                  refine VO.clsP 165 [159, 157, 158] rfl (fun hg65 => (mkP_runRuns (gd_, (dSync ((dWrite D_ 2 ((fAppend [] ((runEncode d1).1)).1)).1)).1) br_ (l_ ++ [d1]) hg65 q56_0 ho64)) (fun mc65 ho65 => ?_)
                  refine VO.k14 0 1 3 4 5 6 7 9 21 31 38 45 53 60 ?_
                  refine outN ?_
                  refine VC.rs ?_
                  refine VO.as ?_
                  refine VO.k14 0 1 3 4 5 6 7 9 21 31 38 45 53 60 ?_
                  refine VC.ret ?_
                  refine ⟨_, _, res_run (rs := [.tmp 4]) rfl (.tmp rfl .nil), fun W_ hI => out_of (l := [mc65]) hI [165] rfl rfl (mle_refl _) (fun hS_ => ?_)⟩
                  dsimp only [packV]
                  have hm0_ : (((gd_, (uFlush D_ br_ l_ d1).1.1), (uFlush D_ br_ l_ d1).1.2) : DrunRuns) = ((gd_, (dSync ((dWrite D_ 2 ((fAppend [] ((runEncode d1).1)).1)).1)).1), br_, l_ ++ [d1]) := by first | rfl | (exact fin0_uFlush_ok)
                  refine ⟨?_, ?_⟩
                  rotate_left
                  · rw [hm0_]; exact (Ow.up ho65 (hS_.1 _ (.head _)))
                  all_goals (first | rfl | (exact fin0_uFlush_ok))
              · -- FFFFFTF
                refine VC.skip ?_
                refine outN ?_
                refine VC.seq ?_
                refine VC.rs ?_
                refine VO.mv ?_
                refine VO.y rfl (.neq rfl rfl) ?_
                refine VO.k14 0 1 3 4 5 6 7 9 21 31 38 45 53 60 ?_
                refine VC.condKT rfl (decide_eq_true hc41) ?_
                refine VC.rs ?_
                refine VO.mv ?_
                refine VO.y rfl (.nilp rfl) ?_
                refine VO.y rfl (.fa rfl tst55 rfl) ?_
                obtain ⟨q66_E, q66_A2, q66_c2, q66_n0, q66_n2, _, q66_S, q66_0, q66_2⟩ := openP_runRuns (x0 := (gd_, (dWrite D_ 2 ((fAppend [] ((runEncode d1).1)).1)).1)) (x1 := br_) (x2 := l_) ho40
                dsimp only at q66_0
                have q66_r2 := q66_2.rm
                refine VO.inv _ (fun _ h => h.parts (i := 140) rfl q66_S [169, 167, 168]) ?_
                refine VO.store (k := 1) (c' := [Value.pointer (some ⟨gd_, 0, none⟩), Value.bool true, Value.slice q66_A2 (l_.length) (q66_c2)]) 169 rfl rfl (.inr ⟨tk4, rfl⟩) rfl rfl rfl rfl rfl ?_
                refine VO.clsP 170 [169, 167, 168] rfl (fun hg70 => (mkP_runRuns (gd_, (dWrite D_ 2 ((fAppend [] ((runEncode d1).1)).1)).1) true l_ hg70 q66_0 q66_2)) (fun mc70 ho70 => ?_)
                refine VO.kp [170, 129, 124, 102, 0] [(170, mc70), (129, m29), (124, m24), (102, mone g1 (.cells [Value.int .i64 (d1.1), Value.int .i64 (d1.2.1), Value.slice p1_A2 (d1.2.2.length) (p1_c2)].toArray 32 (0, 0))), (0, mout (wm W) (m0))] ?_
                refine VO.k14 0 1 3 4 5 6 7 9 21 31 38 45 53 60 ?_
                refine VC.rs ?_
                refine VO.mv ?_
                refine VO.as ?_
                refine VO.k14 0 1 3 4 5 6 7 9 21 31 38 45 53 60 ?_
                refine VC.ret ?_
                refine outR ?_
                refine ⟨_, _, res_run (rs := [.tmp 4]) rfl (.tmp rfl .nil), fun W_ hI => out_of (l := [mc70]) hI [170] rfl rfl (mle_refl _) (fun hS_ => ?_)⟩
                dsimp only [packV]
                have hm0_ : (((gd_, (uFlush D_ br_ l_ d1).1.1), (uFlush D_ br_ l_ d1).1.2) : DrunRuns) = ((gd_, (dWrite D_ 2 ((fAppend [] ((runEncode d1).1)).1)).1), true, l_) := by first | rfl | (exact fin0_uFlush_ok)
                refine ⟨?_, ?_⟩
                rotate_left
                · rw [hm0_]; exact (Ow.up ho70 (hS_.1 _ (.head _)))
                all_goals (first | rfl | (exact fin0_uFlush_ok))
            · -- FFFFFF
              exact absurd (by rw [enc_frame (by assumption)]) hc32
theorem uOpenY_ok (W : World) {m0 : Mem} (hm : mle (m0) (wm W)) {g0 : Nat} {d0 : DdiskDisk} (h0 : Ow (.ptr TdiskDisk) m0 [.pointer (some ⟨g0, 0, none⟩)] (g0, d0)) (e0 : okD d0) (e1 : wD d0 + 200000 ≤ 1000000000000) (e2 : (uOpen d0).2 = 0) : CallR Try.prog 9 [.pointer (some ⟨g0, 0, none⟩)] W (m0) (fun v m' => ∃ (s0 : Nat), v = .tuple #[.pointer (some ⟨s0, 0, none⟩), .int .i64 (0)] ∧ Ow (.ptr TrunRuns) m' [.pointer (some ⟨s0, 0, none⟩)] (s0, ((g0, (uOpen d0).1), false, (runF (dRead d0 2).1).1))) := by
  refine CallR.ofB (n := 42) hm Try.func9 rfl rfl rfl ?_
  refine VC.rs ?_
  refine VO.as ?_
  refine VO.as ?_
  refine VO.k3 0 2 3 ?_
  refine VC.rs ?_
  refine VO.mv ?_
  refine VO.call 1 rfl fnOk38 rfl rfl (fun W hW => dRead_ok W (hW.at (i := 1) rfl) h0 2 bdk (by assumption) bd) (fun v1 m1 hv1 => ?_)
  obtain ⟨s1_0, p1_0, p1_1, rfl, hS1, f1_0, w1_0⟩ := hv1
  refine VO.inv _ (fun _ h => h.parts (i := 1) rfl hS1 [102, 103]) ?_
  have hfa4 := (read_size d0 2)
  obtain ⟨A1_0, c1_0, eq1_0, l1_0, k1_0⟩ := f1_0.slice
  subst eq1_0
  simp only [maxLen] at k1_0
  refine VO.mv ?_
  refine VO.y rfl (.ext rfl rfl) ?_
  refine VO.y rfl (.ext rfl rfl) ?_
  refine VO.as ?_
  refine VO.as ?_
  refine VO.k5 0 2 3 4 5 ?_
  refine VC.seq ?_
  refine VC.rs ?_
  refine VO.mv ?_
  refine VO.y rfl (.neq rfl rfl) ?_
  refine VO.kp [102, 103, 0] [(102, p1_0), (103, p1_1), (0, mout (wm W) (m0))] ?_
  refine VO.k6 0 2 3 4 5 16 ?_
  refine VC.cond rfl (fun hc5 => ?_) (fun hc5 => ?_)
  · -- T
    rw [uopen_bad hc5] at e2; exact absurd e2 hc5
  · -- F
    refine VC.skip ?_
    refine outN ?_
    refine VC.rs ?_
    refine VO.mv ?_
    refine VO.callN 106 rfl fnOk39 rfl (fun W hW => uScan_ok W (OwnL.rd (Ow.ownl f1_0 rfl mnil) (hW.at (i := 102) rfl) (mle_nil _)) bd) (fun v6 m6 hv6 => ?_)
    obtain ⟨s6_0, rfl, f6_0⟩ := hv6
    have hfa7 := runF_bounds ((dRead d0 2).1)
    obtain ⟨A6_0, c6_0, eq6_0, l6_0, k6_0⟩ := f6_0.slice
    subst eq6_0
    simp only [maxLen] at k6_0
    refine VO.mv ?_
    refine VO.y rfl (.ext rfl rfl) ?_
    refine VO.y rfl (.ext rfl rfl) ?_
    refine VO.as ?_
    refine VO.as ?_
    refine VO.k8 0 2 3 4 5 6 7 16 ?_
    refine VC.seq ?_
    refine VC.rs ?_
    refine VO.mv ?_
    refine VO.mv ?_
    refine VO.y rfl (.lenS rfl tsl38) ?_
    refine VO.y rfl (.lss rfl rfl) ?_
    refine VO.k9 0 2 3 4 5 6 7 16 26 ?_
    refine VC.cond rfl (fun hc8 => ?_) (fun hc8 => ?_)
    · -- FT
      refine VC.seq ?_
      refine VC.rs ?_
      refine VO.mv ?_
      refine VO.mv ?_
      refine VO.call 103 rfl fnOk40 rfl rfl (fun W hW => dCut_ok W (hW.at (i := 103) rfl) w1_0 2 bdk ((runF ((dRead d0 2).1)).2) bdk (by assumption) bd) (fun v9 m9 hv9 => ?_)
      obtain ⟨rfl, w9_0⟩ := hv9
      have hfa10 := (cut_ok (f := 2) (n := ((runF ((dRead d0 2).1)).2)) (show okD d0 by assumption))
      have hfa11 := (cut_w (f := 2) (n := ((runF ((dRead d0 2).1)).2)) (show okD d0 by assumption))
      refine VO.as ?_
      refine VO.kp [103, 106, 102, 0] [(103, m9), (106, m6), (102, p1_0), (0, mout (wm W) (m0))] ?_
      refine VO.k10 0 2 3 4 5 6 7 8 16 26 ?_
      refine VC.rs ?_
      refine VO.mv ?_
      refine VO.y rfl (.neq rfl rfl) ?_
      refine VO.k11 0 2 3 4 5 6 7 8 16 26 31 ?_
      refine VC.cond rfl (fun hc12 => ?_) (fun hc12 => ?_)
      · -- FTT
        rw [uopen_cutbad (by assumption) (by assumption) hc12] at e2; exact absurd e2 hc12
      · -- FTF
        refine VC.skip ?_
        refine outN ?_
        refine VC.rs ?_
        refine VO.mv ?_
        refine VO.call 103 rfl fnOk41 rfl rfl (fun W hW => dSync_ok W (hW.at (i := 103) rfl) w9_0 (by assumption) bd) (fun v13 m13 hv13 => ?_)
        obtain ⟨rfl, w13_0⟩ := hv13
        have hfa14 := (sync_ok (show okD ((dCut d0 2 ((runF ((dRead d0 2).1)).2)).1) by assumption))
        have hfa15 := (sync_w (show okD ((dCut d0 2 ((runF ((dRead d0 2).1)).2)).1) by assumption))
        refine VO.as ?_
        refine VO.k12 0 2 3 4 5 6 7 8 9 16 26 31 ?_
        refine VC.rs ?_
        refine VO.mv ?_
        refine VO.y rfl (.neq rfl rfl) ?_
        refine VO.kp [103, 106, 102, 0] [(103, m13), (106, m6), (102, p1_0), (0, mout (wm W) (m0))] ?_
        refine VO.k13 0 2 3 4 5 6 7 8 9 16 26 31 36 ?_
        refine VC.cond rfl (fun hc16 => ?_) (fun hc16 => ?_)
        · -- FTFT
          rw [uopen_sync (by assumption) (by assumption) (by assumption)] at e2; exact absurd e2 hc16
        · -- FTFF
          refine VC.skip ?_
          refine outN ?_
          refine VC.rs ?_
          refine VO.mv ?_
          refine VO.mv ?_
          refine VO.y rfl (.bst (cs := [Value.pointer (some ⟨g0, 0, none⟩), Value.bool false, Value.slice A6_0 (((runF ((dRead d0 2).1)).1).length) (c6_0)]) rfl tst55 tz55 rfl) ?_
          refine VO.box (cs := [Value.pointer (some ⟨g0, 0, none⟩), Value.bool false, Value.slice A6_0 (((runF ((dRead d0 2).1)).1).length) (c6_0)]) 118 rfl rfl rfl (fun g17 => ?_)
          refine VO.as ?_
          refine VO.as ?_
          refine VO.k13 0 2 3 4 5 6 7 8 9 16 26 31 36 ?_
          refine VC.ret ?_
          refine ⟨_, _, res_run (rs := [.tmp 2, .tmp 3]) rfl (.tmp rfl (.tmp rfl .nil)), fun W_ hI => out_of (l := [mone g17 (.cells [Value.pointer (some ⟨g0, 0, none⟩), Value.bool false, Value.slice A6_0 (((runF ((dRead d0 2).1)).1).length) (c6_0)].toArray 55 (0, 0)), m13, m6]) hI [118, 103, 106] rfl rfl (mle_refl _) (fun hS_ => ?_)⟩
          dsimp only [packV]
          have he0 : (((g0, (uOpen d0).1), false, (runF (dRead d0 2).1).1) : DrunRuns) = ((g0, (dSync ((dCut d0 2 ((runF ((dRead d0 2).1)).2)).1)).1), false, (runF ((dRead d0 2).1)).1) := by first | rfl | (first | (rw [uopen_bad (by assumption)] <;> first | rfl | done) | (rw [uopen_whole (by assumption) (by assumption)] <;> first | rfl | done) | (rw [uopen_cutbad (by assumption) (by assumption) (by assumption)] <;> first | rfl | done) | (rw [uopen_sync (by assumption) (by assumption) (by assumption)] <;> first | rfl | done))
          refine ⟨g17, ?_, ?_⟩
          rotate_left
          · rw [he0]; exact (mkP_runRuns (g0, (dSync ((dCut d0 2 ((runF ((dRead d0 2).1)).2)).1)).1) false ((runF ((dRead d0 2).1)).1) hS_ w13_0 f6_0)
          all_goals (first | rfl | (first | (rw [uopen_bad (by assumption)] <;> first | rfl | done) | (rw [uopen_whole (by assumption) (by assumption)] <;> first | rfl | done) | (rw [uopen_cutbad (by assumption) (by assumption) (by assumption)] <;> first | rfl | done) | (rw [uopen_sync (by assumption) (by assumption) (by assumption)] <;> first | rfl | done)))
    · -- FF
      refine VC.skip ?_
      refine outN ?_
      refine VC.rs ?_
      refine VO.mv ?_
      refine VO.mv ?_
      refine VO.y rfl (.bst (cs := [Value.pointer (some ⟨g0, 0, none⟩), Value.bool false, Value.slice A6_0 (((runF ((dRead d0 2).1)).1).length) (c6_0)]) rfl tst55 tz55 rfl) ?_
      refine VO.box (cs := [Value.pointer (some ⟨g0, 0, none⟩), Value.bool false, Value.slice A6_0 (((runF ((dRead d0 2).1)).1).length) (c6_0)]) 120 rfl rfl rfl (fun g19 => ?_)
      refine VO.as ?_
      refine VO.as ?_
      refine VO.kp [120, 106, 102, 103, 0] [(120, mone g19 (.cells [Value.pointer (some ⟨g0, 0, none⟩), Value.bool false, Value.slice A6_0 (((runF ((dRead d0 2).1)).1).length) (c6_0)].toArray 55 (0, 0))), (106, m6), (102, p1_0), (103, p1_1), (0, mout (wm W) (m0))] ?_
      refine VO.k9 0 2 3 4 5 6 7 16 26 ?_
      refine VC.ret ?_
      refine ⟨_, _, res_run (rs := [.tmp 2, .tmp 3]) rfl (.tmp rfl (.tmp rfl .nil)), fun W_ hI => out_of (l := [mone g19 (.cells [Value.pointer (some ⟨g0, 0, none⟩), Value.bool false, Value.slice A6_0 (((runF ((dRead d0 2).1)).1).length) (c6_0)].toArray 55 (0, 0)), p1_1, m6]) hI [120, 103, 106] rfl rfl (mle_refl _) (fun hS_ => ?_)⟩
      dsimp only [packV]
      have he0 : (((g0, (uOpen d0).1), false, (runF (dRead d0 2).1).1) : DrunRuns) = ((g0, d0), false, (runF ((dRead d0 2).1)).1) := by first | rfl | (first | (rw [uopen_bad (by assumption)] <;> first | rfl | done) | (rw [uopen_whole (by assumption) (by assumption)] <;> first | rfl | done) | (rw [uopen_cutbad (by assumption) (by assumption) (by assumption)] <;> first | rfl | done) | (rw [uopen_sync (by assumption) (by assumption) (by assumption)] <;> first | rfl | done))
      refine ⟨g19, ?_, ?_⟩
      rotate_left
      · rw [he0]; exact (mkP_runRuns (g0, d0) false ((runF ((dRead d0 2).1)).1) hS_ w1_0 f6_0)
      all_goals (first | rfl | (first | (rw [uopen_bad (by assumption)] <;> first | rfl | done) | (rw [uopen_whole (by assumption) (by assumption)] <;> first | rfl | done) | (rw [uopen_cutbad (by assumption) (by assumption) (by assumption)] <;> first | rfl | done) | (rw [uopen_sync (by assumption) (by assumption) (by assumption)] <;> first | rfl | done)))
def bwE (mf : Mem) (l : List DRun) (a : Int) (args : List Value) (mr : Mem) : Prop := 0 ≤ a ∧ a < l.length ∧ mr = mnil ∧ ∃ x cs, l[a.toNat]? = some x ∧ args = [.int .i64 a, .agg cs.toArray] ∧ Rd TRun mf cs x
def bwN (a : Int) : Int := a - 1
def bwD (a : Int) : Prop := a < 0
theorem bw1_ok {l : List DRun} {gc : Nat} {v : Value} {mf : Mem} (hl : Rd (.sl TRun) mf [v] l) :
    IterR Try.prog 78 [.pointer (some ⟨gc, 0, none⟩)] mf (mone gc (.cells [v].toArray 47 (0, 0))) (bwE mf l) bwN ((l.length : Int) - 1) bwD := by
  intro G M I X lp W g0 h0 hm hdj hmf hdf hy
  obtain ⟨A, c, rfl, l0, k0⟩ := hl.slice
  simp only [maxLen] at k0
  refine CallR.ofX (n := 19) Try.func78 rfl rfl rfl hm ?_
  refine VX.parts 1 [1, 2] (l := [M g0, mone gc (.cells [(.slice A l.length c : Value)].toArray 47 (0, 0))]) rfl ⟨fun x hx => ?_, List.pairwise_cons.2 ⟨fun x hx => ?_, List.pairwise_singleton _ _⟩⟩ ?_
  · simp only [List.mem_cons, List.not_mem_nil, or_false] at hx
    rcases hx with rfl | rfl
    · exact mle_un_left _ _
    · exact mle_un_right hdj
  · simp only [List.mem_cons, List.not_mem_nil, or_false] at hx
    subst hx; exact hdj
  refine VX.rs ?_
  refine VO.y rfl (.ld1 2 rfl (by kernel_rfl) rfl (cellsAt_one rfl rfl)) ?_
  refine VO.y rfl (.lenS rfl tsl47) ?_
  refine VO.y rfl (.sub (c := (l.length : Int) - 1) rfl rfl rfl ⟨by omega, by omega⟩) ?_
  refine VO.as ?_
  refine VO.k3 0 1 3 ?_
  refine VX.block ?_
  refine VX.loop (G := Int × G) (fun s => [(0, .func (.yield lp) #[] #[]), (1, .pointer (some ⟨gc, 0, none⟩)), (3, .int .i64 s.1)]) (fun s => [(1, M s.2), (2, mone gc (.cells [(.slice A l.length c : Value)].toArray 47 (0, 0))), (0, mout (wm W) (mun (M g0) (mone gc (.cells [(.slice A l.length c : Value)].toArray 47 (0, 0)))))]) (fun s => I s.1 s.2 ∧ -1 ≤ s.1 ∧ s.1 < l.length) (fun s => (s.1 + 1).toNat) ((l.length : Int) - 1, g0) ⟨h0, by dsimp only; omega, by dsimp only; omega⟩ ⟨⟨rfl, rfl, rfl, trivial⟩, fun _ h => h.sub [1, 2, 0]⟩ ?_
  rintro ⟨a, g⟩ ⟨hI, ha, hal⟩
  dsimp only at hI ha hal
  show VX _ _ _ _ _ _ _ [(0, .func (.yield lp) #[] #[]), (1, .pointer (some ⟨gc, 0, none⟩)), (3, .int .i64 a)] [(1, M g), (2, mone gc (.cells [(.slice A l.length c : Value)].toArray 47 (0, 0))), (0, mout (wm W) (mun (M g0) (mone gc (.cells [(.slice A l.length c : Value)].toArray 47 (0, 0)))))]
  refine VX.seq ?_
  refine VX.rs ?_
  refine VO.mv ?_
  refine VO.y rfl (.geq rfl rfl) ?_
  refine VO.k4 0 1 3 8 ?_
  refine VX.cond rfl (fun hc => ?_) (fun hc => ?_)
  · refine VX.skip (outN ?_)
    refine VX.seq (VX.block ?_)
    refine VX.seq ?_
    obtain ⟨x, hx⟩ : ∃ x, l[a.toNat]? = some x := ⟨_, List.getElem?_eq_getElem (by omega)⟩
    obtain ⟨gg, oo, ec, ea, hce, hre⟩ := hl.elem hx
    cases ea
    refine VX.regL _ (hix := ?_) (VL.pre (r := [6, 7]) 6 (by kernel_rfl) ?_)
    · kernel_rfl
    refine VO.mv ?_
    refine VO.mv ?_
    refine VO.y rfl (.ld1 2 rfl (by kernel_rfl) rfl (cellsAt_one rfl rfl)) ?_
    refine VO.mv ?_
    refine VO.y rfl (.ixI a.toNat rfl rfl tsl47 (by omega) (by omega)) ?_
    refine VO.y rfl (.ldA 0 rfl (by kernel_rfl) rfl (hce.mono (mle_out hmf hdf))) ?_
    refine VO.nil ?_
    refine VL.yield 1 rfl rfl (.inl rfl) rfl rfl rfl (fun W' hW => by have h_ := hy a g _ mnil W' hI ⟨hc, hal, rfl, x, ec, hx, rfl, hre⟩ ((hW.nilc 9).sub [0, 1, 9]).three; rw [mun_nil] at h_; exact h_) (fun v m' hv => ?_)
    obtain ⟨g', rfl, hv⟩ := hv
    rcases hv with ⟨rfl, hI'⟩ | ⟨rfl, hX⟩
    · refine VL.post 7 rfl (by kernel_rfl) ?_
      refine VO.y rfl (.not rfl) ?_
      refine VO.k4 0 1 3 18 ?_
      refine outN (VX.condF rfl ?_)
      refine VX.skip (outBN (outN ?_))
      refine VX.reg ?_
      refine VO.mv ?_
      refine VO.y rfl (.sub (c := bwN a) rfl rfl rfl ⟨by unfold bwN; omega, by unfold bwN; omega⟩) ?_
      refine VO.as ?_
      refine VO.nil ?_
      refine outN ⟨rfl, (bwN a, g'), ⟨hI', by unfold bwN; dsimp only; omega, by unfold bwN; dsimp only; omega⟩, by unfold bwN; dsimp only; omega, ⟨⟨rfl, rfl, rfl, trivial⟩, fun _ h => h.sub [1, 2, 0]⟩⟩
    · refine VL.post 7 rfl (by kernel_rfl) ?_
      refine VO.y rfl (.not rfl) ?_
      refine VO.k4 0 1 3 18 ?_
      refine outN (VX.condT rfl ?_)
      refine VX.ret ?_
      refine outBR (outR (outR (outBR ?_)))
      refine ⟨_, _, res_run (rs := []) rfl .nil, fun W_ hI_ => out_of (l := [M g']) hI_ [1] rfl rfl (mle_refl _) (fun hS_ => ⟨g', mun_nil _, .inl hX⟩)⟩
  · refine VX.exit (outE (outE (outBB ?_)))
    refine ⟨_, _, res_run (rs := []) rfl .nil, fun W_ hI_ => out_of (l := [M g]) hI_ [1] rfl rfl (mle_refl _) (fun hS_ => ⟨g, mun_nil _, .inr ⟨a, hI, by unfold bwD; omega⟩⟩)⟩
theorem bw_ok (W : World) {mf : Mem} (hmf : mle mf (wm W)) {v0 : Value} {d0 : List DRun} (h0 : Rd (.sl TRun) mf [v0] d0) : CallR Try.prog 46 [v0] W mnil (fun v m' => ∃ caps, v = .func (.func 78) #[] (List.toArray caps) ∧ IterR Try.prog 78 caps mf m' (bwE mf d0) bwN ((d0.length : Int) - 1) bwD) := by
  obtain ⟨A, c, rfl, _, _⟩ := h0.slice
  refine CallR.ofA (n := 4) Try.func46 rfl rfl rfl ?_
  refine VC.rs ?_
  refine VO.box (cs := [(.slice A d0.length c : Value)]) 101 rfl rfl rfl (fun g1 => ?_)
  refine VO.as ?_
  refine VO.k1 1 ?_
  refine VC.rs ?_
  refine VO.y rfl (.mkf rfl) ?_
  refine VO.as ?_
  refine VO.k1 2 ?_
  refine VC.ret ?_
  refine ⟨_, _, res_run (rs := [.tmp 2]) rfl (.tmp rfl .nil), fun W_ hI => out_of (l := [mone g1 (.cells [(.slice A d0.length c : Value)].toArray 47 (0, 0))]) hI [101] rfl rfl (mle_refl _) (fun hS_ => ⟨[.pointer (some ⟨g1, 0, none⟩)], rfl, ?_⟩)⟩
  show IterR _ _ _ _ (mun _ mnil) _ _ _ _
  rw [mun_nil]
  exact bw1_ok h0
/-- the key at a place of a list of ops -/
def kAt (l : List DOp) (i : Nat) : Bytes := (l[i]?.getD (false, [], [])).2.1
theorem kAt_of {l : List DOp} {i : Nat} {x : DOp} (h : l[i]? = some x) : kAt l i = x.2.1 := by unfold kAt; rw [h]; rfl
def geK (l : List DOp) (k : Bytes) (i : Nat) : Bool := decide (¬ kl (kAt l i) k)
def opAns : Option DOp → Bytes × Bool × Bool
  | some o => (o.2.2, true, o.1)
  | none => ([], false, false)
def findK (l : List DOp) (k : Bytes) : Option DOp := l.find? fun o => decide (o.2.1 = k)
def getRev : List DRun → Bytes → Option DOp
  | [], _ => none
  | r :: l, k => match findK r.2.2 k with
    | some o => some o
    | none => getRev l k
def getR (l : List DRun) (k : Bytes) : Bytes × Bool × Bool := opAns (getRev l.reverse k)
section
variable {l : List DOp} {k : Bytes} {i j : Nat} {x : DOp} {u : List DRun} {r : DRun}
theorem ups_lt {y : DOp} (h : opsUp l) (hx : l[i]? = some x) (hy : l[j]? = some y) (hij : i < j) : kl x.2.1 y.2.1 := by
  obtain ⟨h1, e1⟩ := List.getElem?_eq_some_iff.1 hx
  obtain ⟨h2, e2⟩ := List.getElem?_eq_some_iff.1 hy
  have := List.pairwise_iff_getElem.1 h.2 _ _ h1 h2 hij
  rwa [e1, e2] at this
theorem find_at (h : opsUp l) (hx : l[i]? = some x) (he : x.2.1 = k) : findK l k = some x := by
  unfold findK
  cases hf : l.find? fun o => decide (o.2.1 = k) with
  | none =>
    have := List.find?_eq_none.1 hf x (List.mem_of_getElem? hx)
    rw [he] at this; simp at this
  | some y =>
    have hy := List.find?_some hf
    simp only [decide_eq_true_eq] at hy
    obtain ⟨j, hj⟩ := List.getElem?_of_mem (List.mem_of_find?_eq_some hf)
    rcases Nat.lt_trichotomy i j with q | q | q
    · have := ups_lt h hx hj q; rw [he, hy] at this; exact absurd this (kl_irrefl _)
    · subst q; rw [hx] at hj; exact hj.symm
    · have := ups_lt h hj hx q; rw [he, hy] at this; exact absurd this (kl_irrefl _)
/-- where the search has ended, and the key is not there, it is nowhere -/
theorem find_not (h : opsUp l) (hi : i ≤ l.length) (h1 : i < l.length → geK l k i = true) (h2 : 0 < i → geK l k (i - 1) = false) (hn : ∀ x, l[i]? = some x → ¬ x.2.1 = k) : findK l k = none := by
  unfold findK
  refine List.find?_eq_none.2 fun y hy => ?_
  obtain ⟨j, hj⟩ := List.getElem?_of_mem hy
  have hjl := (List.getElem?_eq_some_iff.1 hj).1
  simp only [decide_eq_true_eq]
  intro e
  rcases Nat.lt_trichotomy j i with q | q | q
  · have h3 := h2 (by omega)
    have h4 : kl (kAt l (i - 1)) k := by unfold geK at h3; simpa using h3
    obtain ⟨z, hz⟩ : ∃ z, l[i - 1]? = some z := ⟨_, List.getElem?_eq_getElem (by omega)⟩
    rw [kAt_of hz] at h4
    rcases Nat.lt_or_ge j (i - 1) with q2 | q2
    · have := kl_trans (ups_lt h hj hz q2) h4; rw [e] at this; exact kl_irrefl _ this
    · have : j = i - 1 := by omega
      subst this; rw [hj] at hz; cases hz; rw [e] at h4; exact kl_irrefl _ h4
  · subst q; exact hn y hj e
  · have h3 := h1 (by omega)
    have h4 : ¬ kl (kAt l i) k := by unfold geK at h3; simpa using h3
    obtain ⟨z, hz⟩ : ∃ z, l[i]? = some z := ⟨_, List.getElem?_eq_getElem (by omega)⟩
    rw [kAt_of hz] at h4
    have := ups_lt h hz hj q; rw [e] at this; exact h4 this
theorem getRev_take {n : Nat} (hx : u[n]? = some r) : getRev (u.take (n + 1)).reverse k = (match findK r.2.2 k with | some o => some o | none => getRev (u.take n).reverse k) := by
  rw [take_one hx, List.reverse_append]; rfl
/-- so far, from the last on: nothing of the key. -/
def getAt (u : List DRun) (k : Bytes) (a : Int) : Prop := -1 ≤ a ∧ a < u.length ∧ getR u k = opAns (getRev (u.take (a + 1).toNat).reverse k)
theorem getAt_0 (u : List DRun) (k : Bytes) : getAt u k ((u.length : Int) - 1) := ⟨by omega, by omega, by
  unfold getR; rw [List.take_of_length_le (by omega)]⟩
theorem getAt_next {a : Int} (h : getAt u k a) (h0 : 0 ≤ a) (hx : u[a.toNat]? = some r) (hf : findK r.2.2 k = none) : getAt u k (a - 1) := by
  refine ⟨by omega, by have := h.2.1; omega, ?_⟩
  rw [h.2.2, show (a + 1).toNat = a.toNat + 1 by omega, getRev_take hx, hf, show (a - 1 + 1).toNat = a.toNat by omega]
theorem getAt_hit {a : Int} {o : DOp} (h : getAt u k a) (h0 : 0 ≤ a) (hx : u[a.toNat]? = some r) (hf : findK r.2.2 k = some o) : getR u k = (o.2.2, true, o.1) := by
  rw [h.2.2, show (a + 1).toNat = a.toNat + 1 by omega, getRev_take hx, hf]; rfl
theorem getAt_end {a : Int} (h : getAt u k a) (ha : a < 0) : getR u k = ([], false, false) := by
  rw [h.2.2, show (a + 1).toNat = 0 by omega]; rfl
end
theorem fnOk46 : fnOk Try.prog 46 = true := by kernel_rfl
theorem fnOk47 : fnOk Try.prog 47 = true := by kernel_rfl
theorem fnOk48 : fnOk Try.prog 48 = true := by kernel_rfl
theorem tz4 : tz Try.prog 4 = some [.bool false] := by kernel_rfl
theorem tz9 : tz Try.prog 9 = some [.string ⟨#[]⟩] := by kernel_rfl
theorem search_ok (W : World) (d0 : Nat) (h0 : d0 < 9223372036854775808) {gf1 : FuncId} {caps1 : List Value} {p1 : Nat → Bool} (hf1 : fnOk Try.prog gf1 = true) (h1 : ∀ W', mle (wm W) (wm W') → ∀ i : Nat, i < d0 → CallR Try.prog gf1 (.int .i64 ((i : Nat) : Int) :: caps1) W' mnil (fun v _ => v = .bool (p1 i))) (e0 : d0 ≤ 4611686018427387903) : CallR Try.prog 47 [.int .i64 (d0 : Int), .func (.func gf1) #[] caps1.toArray] W (mnil) (fun v m' => ∃ (kq : Nat), v = .int .i64 ((kq : Nat) : Int) ∧ kq ≤ d0 ∧ (kq < d0 → p1 kq = true) ∧ (0 < kq → p1 (kq - 1) = false)) := by
  refine CallR.ofA (n := 26) Try.func47 rfl rfl rfl ?_
  refine VC.rs ?_
  refine VO.as ?_
  refine VO.k3 0 1 4 ?_
  refine VC.rs ?_
  refine VO.mv ?_
  refine VO.as ?_
  refine VO.as ?_
  refine VO.k5 0 1 4 5 6 ?_
  refine VC.seq ?_
  refine VC.block ?_
  refine VC.loop (G := Nat × Nat) (fun g => [(5, Value.int .i64 ((((g.1) : Nat) : Int))), (6, Value.int .i64 ((((g.2) : Nat) : Int))), (0, Value.int .i64 (((d0 : Nat) : Int))), (1, Value.func (.func gf1) #[] caps1.toArray), (4, Value.int .i64 (0))]) (fun g => [(0, wm W)]) (fun g => ((g.1) ≤ (g.2)) ∧ ((g.2) ≤ d0) ∧ (0 < (g.1) → p1 ((g.1) - 1) = false) ∧ ((g.2) < d0 → p1 (g.2) = true)) (fun g => (g.2) - (g.1)) (0, d0) (⟨by omega, by omega, by (intro h_; exact absurd h_ (by omega)), by (intro h_; exact absurd h_ (by omega))⟩) ⟨⟨rfl, rfl, rfl, rfl, rfl, trivial⟩, fun _ h => h.sub [0]⟩ ?_
  rintro ⟨i, j⟩ ⟨hij, hj, hp1, hp2⟩
  replace hij : i ≤ j := hij
  replace hj : j ≤ d0 := hj
  replace hp1 : 0 < i → p1 (i - 1) = false := hp1
  replace hp2 : j < d0 → p1 j = true := hp2
  show VC _ _ _ _ _ [(5, Value.int .i64 (((i : Nat) : Int))), (6, Value.int .i64 (((j : Nat) : Int))), (0, Value.int .i64 (((d0 : Nat) : Int))), (1, Value.func (.func gf1) #[] caps1.toArray), (4, Value.int .i64 (0))] [(0, wm W)]
  refine VC.seq ?_
  refine VC.rs ?_
  refine VO.mv ?_
  refine VO.mv ?_
  refine VO.y rfl (.lss rfl rfl) ?_
  refine VO.kp [0] [(0, wm W)] ?_
  refine VO.k6 0 1 4 5 6 11 ?_
  refine VC.cond rfl (fun hc1 => ?_) (fun hc1 => ?_)
  · -- T
    refine VC.skip ?_
    refine outN ?_
    refine VC.block ?_
    refine VC.rs ?_
    refine VO.mv ?_
    refine VO.mv ?_
    refine VO.y rfl (.add (c := ((i + j : Nat) : Int)) rfl rfl (by omega) ⟨bd, bd⟩) ?_
    refine VO.y rfl (.cvI rfl ⟨_, Try.underlying3⟩ Try.underlying119 (IntWalk.u64_in _ bd)) ?_
    refine VO.y rfl (.shf (.inr rfl) rfl rfl (shr1 _)) ?_
    refine VO.y rfl (.cvI rfl ⟨_, Try.underlying119⟩ Try.underlying3 (IntWalk.i64_in _ bd)) ?_
    refine VO.as ?_
    refine VO.k7 0 1 4 5 6 7 11 ?_
    refine VC.rs ?_
    refine VO.mv ?_
    refine VO.mv ?_
    refine VO.callVN 102 rfl rfl hf1 rfl (fun W_ hW_ => h1 W_ (hW_.at (i := 0) rfl) ((i + j) / 2) bd) (fun v2 m2 hv2 => ?_)
    subst hv2
    refine VO.y rfl (.not rfl) ?_
    refine VO.k8 0 1 4 5 6 7 11 21 ?_
    refine VC.condBN rfl (fun hc3 => ?_) (fun hc3 => ?_)
    · -- TT
      refine VC.reg ?_
      refine VO.mv ?_
      refine VO.y rfl (.add (c := ((((i + j) / 2) + 1 : Nat) : Int)) rfl rfl (by omega) ⟨bd, bd⟩) ?_
      refine VO.as ?_
      refine VO.kp [0] [(0, wm W)] ?_
      refine VO.k8 0 1 4 5 6 7 11 21 ?_
      refine outBN ?_
      exact outN ⟨⟨((i + j) / 2) + 1, j⟩, ⟨by omega, by omega, by first | exact hp1 | (intro _; rw [show (i + j) / 2 + 1 - 1 = (i + j) / 2 by omega]; assumption), by first | exact hp2 | (intro _; assumption)⟩, bd, ⟨⟨rfl, rfl, rfl, rfl, rfl, trivial⟩, fun _ h => Inv.sub h [0]⟩⟩
    · -- TF
      refine VC.reg ?_
      refine VO.mv ?_
      refine VO.as ?_
      refine VO.kp [0] [(0, wm W)] ?_
      refine VO.k8 0 1 4 5 6 7 11 21 ?_
      refine outBN ?_
      exact outN ⟨⟨i, (i + j) / 2⟩, ⟨by omega, by omega, by first | exact hp1 | (intro _; rw [show (i + j) / 2 + 1 - 1 = (i + j) / 2 by omega]; assumption), by first | exact hp2 | (intro _; assumption)⟩, bd, ⟨⟨rfl, rfl, rfl, rfl, rfl, trivial⟩, fun _ h => Inv.sub h [0]⟩⟩
  · -- F
    refine VC.exit ?_
    refine outE ?_
    refine outE ?_
    refine outBB ?_
    refine outN ?_
    refine VC.rs ?_
    refine VO.mv ?_
    refine VO.as ?_
    refine VO.k6 0 1 4 5 6 11 ?_
    refine VC.ret ?_
    refine ⟨_, _, res_run (rs := [.tmp 4]) rfl (.tmp rfl .nil), fun W_ hI => out_of (l := []) hI [] rfl rfl (mle_refl _) (fun hS_ => ?_)⟩
    dsimp only [packV]
    refine ⟨i, ?_, ?_, ?_, ?_⟩
    rotate_left
    · (omega)
    · ((intro h_; have e_ : i = j := (by omega); subst e_; exact hp2 h_))
    · (exact hp1)
    all_goals (first | rfl | (simp [*]; done))
theorem get1_ok (W : World) (d0 : Nat) (h0 : d0 < 9223372036854775808) {g1 : Nat} {E1 : TypeId} {v1 : List Value} {d1 : DRun} (h1 : Rd TRun (wm W) v1 d1) (b1 : mle (mone g1 (.cells v1.toArray E1 (0, 0))) (wm W)) {g2 : Nat} {E2 : TypeId} {v2 : List Value} {d2 : List UInt8} (h2 : Rd .str (wm W) v2 d2) (b2 : mle (mone g2 (.cells v2.toArray E2 (0, 0))) (wm W)) (e0 : d0 < d1.2.2.length) : CallR Try.prog 48 [.int .i64 (d0 : Int), .pointer (some ⟨g1, 0, none⟩), .pointer (some ⟨g2, 0, none⟩)] W (mnil) (fun v m' => v = .bool (geK d1.2.2 d2 d0)) := by
  obtain ⟨p1_A2, p1_c2, rfl, p1_0, p1_1, p1_2⟩ := open_Run (x0 := d1.1) (x1 := d1.2.1) (x2 := d1.2.2) h1
  simp only [inK] at p1_0
  simp only [inK] at p1_1
  have p1_r2 := Rd.room p1_2
  have hceb1 : cellsAt (wm W) g1 0 3 [Value.int .i64 (d1.1), Value.int .i64 (d1.2.1), Value.slice p1_A2 (d1.2.2.length) (p1_c2)] := (cellsAt_one rfl rfl).mono b1
  obtain ⟨rfl, _⟩ := h2
  have hceb2 : cellsAt (wm W) g2 0 1 [str (d2)] := (cellsAt_one rfl rfl).mono b2
  refine CallR.ofA (n := 13) Try.func48 rfl rfl rfl ?_
  refine VC.rs ?_
  refine VO.as ?_
  refine VO.k4 0 1 2 4 ?_
  refine VC.seq ?_
  refine VC.regD _ 7 [(0, true), (1, true), (2, true), (3, true), (4, true), (5, true), (6, true)] follows (by kernel_rfl) (fun _ h => h.sub [0]) ?_
  refine VD.y rfl rfl (.inl rfl) (.fa rfl tst32 rfl) ?_
  refine VD.y rfl rfl (.inl rfl) (.ld1 0 rfl tk30 rfl (hceb1.at1 (j := 2) rfl)) ?_
  refine VD.y rfl rfl (.inl rfl) (.mv rfl) ?_
  obtain ⟨x1, hx1⟩ : ∃ z_, (d1.2.2)[d0]? = some z_ := ⟨_, List.getElem?_eq_getElem bd⟩
  obtain ⟨gg1, oo1, ec1, ea1, hce1, hre1⟩ := p1_2.elem hx1
  cases ea1
  obtain ⟨rfl, q1_1, q1_2⟩ := open_Op (x0 := x1.1) (x1 := x1.2.1) (x2 := x1.2.2) hre1
  simp only [maxLen] at q1_1
  simp only [maxLen] at q1_2
  refine VD.y rfl rfl (.inl rfl) (.ixI d0 rfl rfl tsl30 rfl bd) ?_
  refine VD.y rfl rfl (.inl rfl) (.fa rfl tst35 rfl) ?_
  refine VD.y rfl rfl (.inl rfl) (.ld1 0 rfl tk9 rfl (hce1.at1 (j := 1) rfl)) ?_
  refine VD.y rfl rfl (.inl rfl) (.ld1 0 rfl tk9 rfl hceb2) ?_
  refine VD.nil rfl ?_ rfl
  refine VO.y rfl (.sgeq rfl rfl) ?_
  refine VO.as ?_
  refine VO.k4 0 1 2 4 ?_
  refine outN ?_
  refine VC.ret ?_
  refine ⟨_, _, res_run (rs := [.tmp 4]) rfl (.tmp rfl .nil), fun W_ hI => out_of (l := []) hI [] rfl rfl (mle_refl _) (fun hS_ => ?_)⟩
  dsimp only [packV]
  all_goals (first | rfl | (exact congrArg Value.bool (by unfold geK; rw [kAt_of ‹d1.2.2[d0]? = some _›])))
theorem uNoneB_ok (W : World) {g0 : Nat} {E0 : TypeId} {d0 : DrunRuns0} {b0_2 : Value} (hm : mle (mone g0 (.cells [(.pointer (d0.1.map fun g => ⟨g, 0, none⟩) : Value), .bool d0.2.1, b0_2].toArray E0 (0, 0))) (wm W)) (h0_2 : Rd (.sl TRun) (mout (wm W) (mone g0 (.cells [(.pointer (d0.1.map fun g => ⟨g, 0, none⟩) : Value), .bool d0.2.1, b0_2].toArray E0 (0, 0)))) [b0_2] d0.2.2) : CallR Try.prog 42 [.pointer (some ⟨g0, 0, none⟩)] W (mone g0 (.cells [(.pointer (d0.1.map fun g => ⟨g, 0, none⟩) : Value), .bool d0.2.1, b0_2].toArray E0 (0, 0))) (fun v m' => v = .bool (decide (d0.1 = none)) ∧ m' = mone g0 (.cells [(.pointer (d0.1.map fun g => ⟨g, 0, none⟩) : Value), .bool d0.2.1, b0_2].toArray E0 (0, 0))) := by
  obtain ⟨A0_2, c0_2, rfl, l0_2, k0_2⟩ := h0_2.slice
  simp only [maxLen] at k0_2
  refine CallR.ofB (n := 12) hm Try.func42 rfl rfl rfl ?_
  refine VC.rs ?_
  refine VO.as ?_
  refine VO.k2 0 2 ?_
  refine VC.rs ?_
  refine VO.mv ?_
  refine VO.y rfl (.pnil rfl rfl Try.underlying23 rfl) ?_
  refine VO.mv ?_
  refine VO.gy rfl ⟨_, rfl, rfl⟩ (.mv rfl) ?_
  refine VO.gy rfl ⟨_, rfl, rfl⟩ (.nilp rfl) ?_
  refine VO.gy rfl ⟨_, rfl, rfl⟩ (.fa rfl tst55 rfl) ?_
  refine VO.gy rfl ⟨_, rfl, rfl⟩ (.ld1 1 rfl tk27 rfl (cellsAt_one rfl rfl)) ?_
  refine VO.gy rfl ⟨_, rfl, rfl⟩ (.pnilO rfl rfl Try.underlying27) ?_
  refine VO.y rfl (.pF rfl rfl) ?_
  refine VO.as ?_
  refine VO.k2 0 2 ?_
  refine VC.ret ?_
  refine ⟨_, _, res_run (rs := [.tmp 2]) rfl (.tmp rfl .nil), fun W_ hI => out_of (l := [mone g0 (.cells [Value.pointer ((d0.1).map fun g => ⟨g, 0, none⟩), Value.bool d0.2.1, Value.slice A0_2 (d0.2.2.length) (c0_2)].toArray E0 (0, 0))]) hI [1] rfl rfl (mle_refl _) (fun hS_ => ?_)⟩
  dsimp only [packV]
  refine ⟨?_, ?_⟩
  rotate_left
  · rw [muns_one]
  all_goals (first | rfl | (simp [*]; done))
set_option maxHeartbeats 4000000 in
theorem uGet_ok (W : World) {g0 : Nat} {E0 : TypeId} {d0 : DrunRuns0} {b0_2 : Value} (hm : mle (mone g0 (.cells [(.pointer (d0.1.map fun g => ⟨g, 0, none⟩) : Value), .bool d0.2.1, b0_2].toArray E0 (0, 0))) (wm W)) (h0_2 : Rd (.sl TRun) (mout (wm W) (mone g0 (.cells [(.pointer (d0.1.map fun g => ⟨g, 0, none⟩) : Value), .bool d0.2.1, b0_2].toArray E0 (0, 0)))) [b0_2] d0.2.2) (d1 : List UInt8) (h1 : d1.length ≤ maxLen) (e0 : okU d0.2.2) (e1 : ¬ d0.1 = none) : CallR Try.prog 13 [.pointer (some ⟨g0, 0, none⟩), str d1] W (mone g0 (.cells [(.pointer (d0.1.map fun g => ⟨g, 0, none⟩) : Value), .bool d0.2.1, b0_2].toArray E0 (0, 0))) (fun v m' => v = .tuple #[str ((getR d0.2.2 d1).1), .bool ((getR d0.2.2 d1).2.1), .bool ((getR d0.2.2 d1).2.2)] ∧ m' = mone g0 (.cells [(.pointer (d0.1.map fun g => ⟨g, 0, none⟩) : Value), .bool d0.2.1, b0_2].toArray E0 (0, 0))) := by
  have hll := okU_len e0
  obtain ⟨A0_2, c0_2, rfl, l0_2, k0_2⟩ := h0_2.slice
  simp only [maxLen] at k0_2
  have h1' := h1; simp only [maxLen] at h1'
  refine CallR.ofX (n := 51) Try.func13 rfl rfl rfl hm ?_
  refine VX.rs ?_
  refine VO.box (cs := [str (d1)]) 102 rfl rfl rfl (fun g1 => ?_)
  refine VO.alloc 104 rfl tz9 (fun g3 => ?_)
  refine VO.alloc 106 rfl tz4 (fun g5 => ?_)
  refine VO.alloc 108 rfl tz4 (fun g7 => ?_)
  refine VO.k6 0 1 3 4 5 6 ?_
  refine VX.seq ?_
  refine VX.rs ?_
  refine VO.mv ?_
  refine VO.call 1 rfl fnOk42 rfl rfl (fun W hW => uNoneB_ok W (d0 := d0) (hW.at (i := 1) rfl) (Rd.mono h0_2 (hW.out (i := 1) (j := 0) rfl rfl))) (fun v9 m9 hv9 => ?_)
  obtain ⟨rfl, rfl⟩ := hv9
  refine VO.k7 0 1 3 4 5 6 11 ?_
  refine VX.cond rfl (fun hc10 => ?_) (fun hc10 => ?_)
  · -- T
    exact (e1 hc10).elim
  · -- F
    refine VX.skip ?_
    refine outN ?_
    refine VX.seq ?_
    refine VX.rs ?_
    refine VO.mv ?_
    refine VO.y rfl (.nilp rfl) ?_
    refine VO.y rfl (.fa rfl tst55 rfl) ?_
    refine VO.y rfl (.ld1 1 rfl tk47 rfl (cellsAt_one rfl rfl)) ?_
    refine VO.callN 111 rfl fnOk46 rfl (fun W_ hW_ => bw_ok W_ (mf := mout (wm W) (mone g0 (.cells [Value.pointer ((d0.1).map fun g => ⟨g, 0, none⟩), Value.bool d0.2.1, Value.slice A0_2 (d0.2.2.length) (c0_2)].toArray E0 (0, 0)))) (hW_.at (i := 0) rfl) h0_2) (fun v11 m11 hv11 => ?_)
    obtain ⟨ca11, rfl, hit11⟩ := hv11
    refine VO.kp [111, 1, 108, 106, 104, 102, 0] [(111, m11), (1, mone g0 (.cells [Value.pointer ((d0.1).map fun g => ⟨g, 0, none⟩), Value.bool d0.2.1, Value.slice A0_2 (d0.2.2.length) (c0_2)].toArray E0 (0, 0))), (108, mone g7 (.cells [Value.bool false].toArray 4 (0, 0))), (106, mone g5 (.cells [Value.bool false].toArray 4 (0, 0))), (104, mone g3 (.cells [str ([])].toArray 9 (0, 0))), (102, mone g1 (.cells [str (d1)].toArray 9 (0, 0))), (0, mout (wm W) (mone g0 (.cells [Value.pointer ((d0.1).map fun g => ⟨g, 0, none⟩), Value.bool d0.2.1, Value.slice A0_2 (d0.2.2.length) (c0_2)].toArray E0 (0, 0))))] ?_
    refine VO.k8 0 1 3 4 5 6 11 16 ?_
    refine VX.block ?_
    refine VX.gather (l := [mone g7 (.cells [Value.bool false].toArray 4 (0, 0)), mone g5 (.cells [Value.bool false].toArray 4 (0, 0)), mone g3 (.cells [str ([])].toArray 9 (0, 0))]) 113 [108, 106, 104] rfl (fun hg12 => ?_)
    refine VX.inv [(111, m11), (113, muns [mone g7 (.cells [Value.bool false].toArray 4 (0, 0)), mone g5 (.cells [Value.bool false].toArray 4 (0, 0)), mone g3 (.cells [str ([])].toArray 9 (0, 0))]), (1, mone g0 (.cells [Value.pointer ((d0.1).map fun g => ⟨g, 0, none⟩), Value.bool d0.2.1, Value.slice A0_2 (d0.2.2.length) (c0_2)].toArray E0 (0, 0))), (102, mone g1 (.cells [str (d1)].toArray 9 (0, 0))), (0, mout (wm W) (mone g0 (.cells [Value.pointer ((d0.1).map fun g => ⟨g, 0, none⟩), Value.bool d0.2.1, Value.slice A0_2 (d0.2.2.length) (c0_2)].toArray E0 (0, 0))))] (fun _ h => h.sub [111, 113, 1, 102, 0]) ?_
    refine VX.rangeR (A := Int) (G := (List UInt8) × Bool × Bool) (rest := [(1, mone g0 (.cells [Value.pointer ((d0.1).map fun g => ⟨g, 0, none⟩), Value.bool d0.2.1, Value.slice A0_2 (d0.2.2.length) (c0_2)].toArray E0 (0, 0))), (102, mone g1 (.cells [str (d1)].toArray 9 (0, 0))), (0, mout (wm W) (mone g0 (.cells [Value.pointer ((d0.1).map fun g => ⟨g, 0, none⟩), Value.bool d0.2.1, Value.slice A0_2 (d0.2.2.length) (c0_2)].toArray E0 (0, 0))))]) 113 111 114 115 116 117 (fun g => muns [mone g7 (.cells [Value.bool (g.2.2)].toArray 4 (0, 0)), mone g5 (.cells [Value.bool (g.2.1)].toArray 4 (0, 0)), mone g3 (.cells [str ((g.1))].toArray 9 (0, 0))]) (fun at_ g => (getAt d0.2.2 d1 at_) ∧ (Seps (muns [mone g7 (.cells [Value.bool (g.2.2)].toArray 4 (0, 0)), mone g5 (.cells [Value.bool (g.2.1)].toArray 4 (0, 0)), mone g3 (.cells [str ((g.1))].toArray 9 (0, 0))]) [mone g7 (.cells [Value.bool (g.2.2)].toArray 4 (0, 0)), mone g5 (.cells [Value.bool (g.2.1)].toArray 4 (0, 0)), mone g3 (.cells [str ((g.1))].toArray 9 (0, 0))])) (fun e g => e = .ret ∧ (getR d0.2.2 d1 = ((g.1), (g.2.1), (g.2.2))) ∧ (Seps (muns [mone g7 (.cells [Value.bool (g.2.2)].toArray 4 (0, 0)), mone g5 (.cells [Value.bool (g.2.1)].toArray 4 (0, 0)), mone g3 (.cells [str ((g.1))].toArray 9 (0, 0))]) [mone g7 (.cells [Value.bool (g.2.2)].toArray 4 (0, 0)), mone g5 (.cells [Value.bool (g.2.1)].toArray 4 (0, 0)), mone g3 (.cells [str ((g.1))].toArray 9 (0, 0))])) ([], false, false) ⟨by exact getAt_0 _ _, hg12⟩ (fun _ _ => hit11) (.inr ⟨0, (.tail _ (.tail _ (.head _)))⟩) rfl rfl rfl (fun _ _ _ h => by obtain ⟨_, _, _, _, _, _, rfl, _⟩ := h; rfl) (Bx := Nat) (fun args B => [(8, Value.pointer (some ⟨B, 0, none⟩)), (0, Value.pointer (some ⟨g0, 0, none⟩)), (1, str (d1)), (3, Value.pointer (some ⟨g1, 0, none⟩)), (4, Value.pointer (some ⟨g3, 0, none⟩)), (5, Value.pointer (some ⟨g5, 0, none⟩)), (6, Value.pointer (some ⟨g7, 0, none⟩)), (11, Value.bool (decide (d0.1 = none)))]) (fun args B => [(118, mone B (.cells (aggC (args.getD 1 undef)) 32 (0, 0)))]) ?_ ?_ ?_ ?_
    · intro w1_ l_ at_ args_ mr_ Ω_ hE_
      obtain ⟨hE0_, hE1_, rfl, x_, cs_, hxa_, rfl, hrx_⟩ := hE_
      have hrx0_ := hrx_
      obtain ⟨xA_, xc_, rfl, hxf_, hxu_, hro_⟩ := open_Run (x0 := x_.1) (x1 := x_.2.1) (x2 := x_.2.2) hrx_
      simp only [inK] at hxf_ hxu_
      have hxr_ := Rd.room hro_
      have hxc_ := runCheck_ok (okU_all e0 x_ (List.mem_of_getElem? hxa_))
      have hup_ := hxc_.2.2.2.2
      refine VX.reg ?_
      refine VO.alloc 118 rfl tz32 (fun gB_ => ?_)
      refine VO.store (k := 3) (c' := [Value.int .i64 (x_.1), Value.int .i64 (x_.2.1), Value.slice xA_ (x_.2.2.length) (xc_)]) 118 rfl rfl (.inl tk32) rfl rfl rfl rfl rfl ?_
      refine VO.nil ?_
      exact ⟨rfl, rfl, gB_, ⟨rfl, rfl, rfl, rfl, rfl, rfl, rfl, rfl, trivial⟩, fun W_ hW_ => Inv.rot hW_⟩
    · -- FB
      rintro w1_ l_ D_ at_ ⟨val, met, th⟩ args_ mr_ ml_ mo_ gB_ ⟨hg, hSep_⟩ hE_
      replace hg : getAt d0.2.2 d1 at_ := hg
      replace hSep_ : Seps (muns [mone g7 (.cells [Value.bool th].toArray 4 (0, 0)), mone g5 (.cells [Value.bool met].toArray 4 (0, 0)), mone g3 (.cells [str (val)].toArray 9 (0, 0))]) [mone g7 (.cells [Value.bool th].toArray 4 (0, 0)), mone g5 (.cells [Value.bool met].toArray 4 (0, 0)), mone g3 (.cells [str (val)].toArray 9 (0, 0))] := hSep_
      obtain ⟨hE0_, hE1_, rfl, x_, cs_, hxa_, rfl, hrx_⟩ := hE_
      have hrx0_ := hrx_
      obtain ⟨xA_, xc_, rfl, hxf_, hxu_, hro_⟩ := open_Run (x0 := x_.1) (x1 := x_.2.1) (x2 := x_.2.2) hrx_
      simp only [inK] at hxf_ hxu_
      have hxr_ := Rd.room hro_
      have hxc_ := runCheck_ok (okU_all e0 x_ (List.mem_of_getElem? hxa_))
      have hup_ := hxc_.2.2.2.2
      refine VX.parts 113 [108, 106, 104] rfl hSep_ ?_
      show VX _ _ _ _ _ _ _ [(8, Value.pointer (some ⟨gB_, 0, none⟩)), (0, Value.pointer (some ⟨g0, 0, none⟩)), (1, str (d1)), (3, Value.pointer (some ⟨g1, 0, none⟩)), (4, Value.pointer (some ⟨g3, 0, none⟩)), (5, Value.pointer (some ⟨g5, 0, none⟩)), (6, Value.pointer (some ⟨g7, 0, none⟩)), (11, Value.bool (decide (d0.1 = none)))] [(108, mone g7 (.cells [Value.bool th].toArray 4 (0, 0))), (106, mone g5 (.cells [Value.bool met].toArray 4 (0, 0))), (104, mone g3 (.cells [str (val)].toArray 9 (0, 0))), (116, mnil), (117, mo_), (115, ml_), (114, mone D_ (.deferred (some []))), (1, mone g0 (.cells [Value.pointer ((d0.1).map fun g => ⟨g, 0, none⟩), Value.bool d0.2.1, Value.slice A0_2 (d0.2.2.length) (c0_2)].toArray E0 (0, 0))), (102, mone g1 (.cells [str (d1)].toArray 9 (0, 0))), (0, mout (wm W) (mone g0 (.cells [Value.pointer ((d0.1).map fun g => ⟨g, 0, none⟩), Value.bool d0.2.1, Value.slice A0_2 (d0.2.2.length) (c0_2)].toArray E0 (0, 0)))), (118, mone gB_ (.cells [Value.int .i64 (x_.1), Value.int .i64 (x_.2.1), Value.slice xA_ (x_.2.2.length) (xc_)].toArray 32 (0, 0)))]
      refine VX.block ?_
      refine VX.rs ?_
      refine VO.y rfl (.fa rfl tst32 rfl) ?_
      refine VO.y rfl (.ld1 118 rfl tk30 rfl (cellsAt_one rfl rfl)) ?_
      refine VO.y rfl (.lenS rfl tsl30) ?_
      refine VO.y rfl (.mkf rfl) ?_
      refine VO.callN 119 rfl fnOk47 rfl (fun W_ hW_ => search_ok (p1 := geK x_.2.2 d1) W_ x_.2.2.length bd fnOk48 (fun W2_ hW2_ i_ hi_ => get1_ok W2_ i_ (by omega) (d1 := x_) (Rd.mono hrx_ ((hW_.at (i := 0) rfl).trans hW2_)) ((hW_.at (i := 118) rfl).trans hW2_) (d2 := d1) (v2 := [str d1]) ⟨rfl, h1⟩ ((hW_.at (i := 102) rfl).trans hW2_) hi_) (by omega)) (fun v19 m19 hv19 => ?_)
      obtain ⟨kq19, rfl, hq1_19, hq2_19, hq3_19⟩ := hv19
      refine VO.as ?_
      refine VO.k9 0 1 3 4 5 6 8 9 11 ?_
      refine VX.seq ?_
      refine VX.regD _ 13 [(0, true), (1, true), (2, true), (3, true), (4, true), (5, true), (6, true), (7, true), (8, true), (9, true), (10, true), (11, true), (12, true)] follows (by kernel_rfl) (fun _ h => h.sub [119, 108, 106, 104, 116, 117, 115, 114, 1, 102, 0, 118]) ?_
      refine VD.y rfl rfl (.inl rfl) (.mv rfl) ?_
      refine VD.y rfl rfl (.inl rfl) (.fa rfl tst32 rfl) ?_
      refine VD.y rfl rfl (.inl rfl) (.ld1 118 rfl tk30 rfl (cellsAt_one rfl rfl)) ?_
      refine VD.y rfl rfl (.inl rfl) (.lenS rfl tsl30) ?_
      refine VD.y rfl rfl (.inl rfl) (.lss rfl rfl) ?_
      refine VD.y rfl rfl (.inl rfl) (.mv rfl) ?_
      refine VD.dec (s := 29) rfl (fun hc20 => ?_) (fun hc20 => ?_)
      · -- FBT
        refine VD.y rfl rfl (.inr ⟨_, _, rfl, _, rfl, rfl⟩) (.fa rfl tst32 rfl) ?_
        refine VD.y rfl rfl (.inr ⟨_, _, rfl, _, rfl, rfl⟩) (.ld1 118 rfl tk30 rfl (cellsAt_one rfl rfl)) ?_
        refine VD.y rfl rfl (.inr ⟨_, _, rfl, _, rfl, rfl⟩) (.mv rfl) ?_
        obtain ⟨x21, hx21⟩ : ∃ z_, (x_.2.2)[kq19]? = some z_ := ⟨_, List.getElem?_eq_getElem bd⟩
        obtain ⟨gg21, oo21, ec21, ea21, hce21, hre21⟩ := hro_.elem hx21
        cases ea21
        obtain ⟨rfl, q21_1, q21_2⟩ := open_Op (x0 := x21.1) (x1 := x21.2.1) (x2 := x21.2.2) hre21
        simp only [maxLen] at q21_1
        simp only [maxLen] at q21_2
        refine VD.y rfl rfl (.inr ⟨_, _, rfl, _, rfl, rfl⟩) (.ixI kq19 rfl rfl tsl30 rfl bd) ?_
        refine VD.y rfl rfl (.inr ⟨_, _, rfl, _, rfl, rfl⟩) (.fa rfl tst35 rfl) ?_
        refine VD.y rfl rfl (.inr ⟨_, _, rfl, _, rfl, rfl⟩) (.ld1 0 rfl tk9 rfl (hce21.at1 (j := 1) rfl)) ?_
        refine VD.y rfl rfl (.inr ⟨_, _, rfl, _, rfl, rfl⟩) (.ld1 102 rfl tk9 rfl (cellsAt_one rfl rfl)) ?_
        refine VD.nil rfl ?_ rfl
        refine VO.gy rfl ⟨_, rfl, rfl⟩ (.seql rfl rfl) ?_
        refine VO.y rfl (.pT rfl rfl) ?_
        refine VO.k10 0 1 3 4 5 6 8 9 11 38 ?_
        refine outN ?_
        refine VX.cond rfl (fun hc22 => ?_) (fun hc22 => ?_)
        · -- FBTT
          refine VX.seq ?_
          refine VX.inv _ (fun _ h => Inv.num h 106 2106 rfl) ?_
          refine VX.inv _ (fun _ h => Inv.num h 104 2104 rfl) ?_
          refine VX.regD _ 14 [(0, true), (1, true), (2, true), (3, true), (4, true), (5, true), (6, true), (7, true), (8, true), (9, true), (10, true), (11, true), (12, false), (13, false)] follows (by kernel_rfl) (fun _ h => h.sub [119, 108, 2106, 2104, 116, 117, 115, 114, 1, 102, 0, 118]) ?_
          refine VD.y rfl rfl (.inl rfl) (.fa rfl tst32 rfl) ?_
          refine VD.y rfl rfl (.inl rfl) (.ld1 118 rfl tk30 rfl (cellsAt_one rfl rfl)) ?_
          refine VD.y rfl rfl (.inl rfl) (.mv rfl) ?_
          refine VD.y rfl rfl (.inl rfl) (.ixI kq19 rfl rfl tsl30 rfl bd) ?_
          refine VD.y rfl rfl (.inl rfl) (.fa rfl tst35 rfl) ?_
          refine VD.y rfl rfl (.inl rfl) (.ld1 0 rfl tk9 rfl (hce21.at1 (j := 2) rfl)) ?_
          refine VD.y rfl rfl (.inl rfl) (.fa rfl tst32 rfl) ?_
          refine VD.y rfl rfl (.inl rfl) (.ld1 118 rfl tk30 rfl (cellsAt_one rfl rfl)) ?_
          refine VD.y rfl rfl (.inl rfl) (.mv rfl) ?_
          refine VD.y rfl rfl (.inl rfl) (.ixI kq19 rfl rfl tsl30 rfl bd) ?_
          refine VD.y rfl rfl (.inl rfl) (.fa rfl tst35 rfl) ?_
          refine VD.y rfl rfl (.inl rfl) (.ld1 0 rfl tk4 rfl (hce21.at1 (j := 0) rfl)) ?_
          refine VD.storeH (k := 1) (c' := [str (x21.2.2)]) 2104 rfl rfl rfl (.inr ⟨tk9, rfl⟩) rfl rfl rfl rfl rfl (fun _ h => h.sub [119, 108, 116, 117, 115, 114, 1, 102, 0, 118]) ?_
          refine VD.storeH (k := 1) (c' := [Value.bool true]) 2106 rfl rfl rfl (.inr ⟨tk4, rfl⟩) rfl rfl rfl rfl rfl (fun _ h => h.sub [119, 108, 116, 117, 115, 114, 1, 102, 0, 118]) ?_
          refine VD.nil rfl ?_ rfl
          refine VO.store (k := 1) (c' := [Value.bool x21.1]) 108 rfl rfl (.inr ⟨tk4, rfl⟩) rfl rfl rfl rfl rfl ?_
          refine VO.kp [108, 2106, 2104, 117, 115, 114, 1, 102, 0, 118] [(108, mone g7 (.cells [Value.bool x21.1].toArray 4 (0, 0))), (2106, mone g5 (.cells [Value.bool true].toArray 4 (0, 0))), (2104, mone g3 (.cells [str (x21.2.2)].toArray 9 (0, 0))), (117, mo_), (115, ml_), (114, mone D_ (.deferred (some []))), (1, mone g0 (.cells [Value.pointer ((d0.1).map fun g => ⟨g, 0, none⟩), Value.bool d0.2.1, Value.slice A0_2 (d0.2.2.length) (c0_2)].toArray E0 (0, 0))), (102, mone g1 (.cells [str (d1)].toArray 9 (0, 0))), (0, mout (wm W) (mone g0 (.cells [Value.pointer ((d0.1).map fun g => ⟨g, 0, none⟩), Value.bool d0.2.1, Value.slice A0_2 (d0.2.2.length) (c0_2)].toArray E0 (0, 0)))), (118, mone gB_ (.cells [Value.int .i64 (x_.1), Value.int .i64 (x_.2.1), Value.slice (some ⟨gg21, oo21, none⟩) (x_.2.2.length) (xc_)].toArray 32 (0, 0)))] ?_
          refine VO.k10 0 1 3 4 5 6 8 9 11 38 ?_
          refine outN ?_
          refine VX.ret ?_
          refine outBR ?_
          exact ⟨rfl, fun W_ hW_ => ⟨⟨x21.2.2, true, x21.1⟩, (hW_.gather (ids := [108, 2106, 2104]) 113 rfl).1.sub [117, 115, 113, 114, 1, 102, 0], .inr ⟨rfl, rfl, by exact getAt_hit hg hE0_ hxa_ (find_at hup_ ‹x_.2.2[kq19]? = some _› (by assumption)), (hW_.gather (ids := [108, 2106, 2104]) 113 rfl).2⟩⟩⟩
        · -- FBTF
          refine VX.skip ?_
          refine outBN ?_
          exact ⟨rfl, fun W_ hW_ => ⟨⟨val, met, th⟩, (hW_.gather (ids := [108, 106, 104]) 113 rfl).1.sub [117, 115, 113, 114, 1, 102, 0], .inl ⟨rfl, by exact getAt_next hg hE0_ hxa_ (find_not hup_ hq1_19 hq2_19 hq3_19 (by intro y_ hy_; first | (exfalso; have h_ := (List.getElem?_eq_some_iff.1 hy_).1; omega) | (rw [hx21] at hy_; cases hy_; assumption))), (hW_.gather (ids := [108, 106, 104]) 113 rfl).2⟩⟩⟩
      · -- FBF
        refine VD.gn rfl rfl (.inl ⟨_, rfl, rfl⟩) ?_
        refine VD.gn rfl rfl (.inl ⟨_, rfl, rfl⟩) ?_
        refine VD.gn rfl rfl (.inl ⟨_, rfl, rfl⟩) ?_
        refine VD.gn rfl rfl (.inl ⟨_, rfl, rfl⟩) ?_
        refine VD.gn rfl rfl (.inl ⟨_, rfl, rfl⟩) ?_
        refine VD.gn rfl rfl (.inl ⟨_, rfl, rfl⟩) ?_
        refine VD.gn rfl rfl (.inl ⟨_, rfl, rfl⟩) ?_
        refine VD.nil rfl ?_ rfl
        refine VO.gN ?_
        refine VO.y rfl (.pF rfl rfl) ?_
        refine VO.k10 0 1 3 4 5 6 8 9 11 38 ?_
        refine outN ?_
        refine VX.condF rfl ?_
        refine VX.skip ?_
        refine outBN ?_
        exact ⟨rfl, fun W_ hW_ => ⟨⟨val, met, th⟩, (hW_.gather (ids := [108, 106, 104]) 113 rfl).1.sub [117, 115, 113, 114, 1, 102, 0], .inl ⟨rfl, by exact getAt_next hg hE0_ hxa_ (find_not hup_ hq1_19 hq2_19 hq3_19 (by intro y_ hy_; first | (exfalso; have h_ := (List.getElem?_eq_some_iff.1 hy_).1; omega) | (rw [hx21] at hy_; cases hy_; assumption))), (hW_.gather (ids := [108, 106, 104]) 113 rfl).2⟩⟩⟩
    · -- FD
      rintro D_ at_ ⟨val, met, th⟩ ⟨hg, hSep_⟩ hDn_
      replace hg : getAt d0.2.2 d1 at_ := hg
      replace hSep_ : Seps (muns [mone g7 (.cells [Value.bool th].toArray 4 (0, 0)), mone g5 (.cells [Value.bool met].toArray 4 (0, 0)), mone g3 (.cells [str (val)].toArray 9 (0, 0))]) [mone g7 (.cells [Value.bool th].toArray 4 (0, 0)), mone g5 (.cells [Value.bool met].toArray 4 (0, 0)), mone g3 (.cells [str (val)].toArray 9 (0, 0))] := hSep_
      refine outBN ?_
      refine outN ?_
      refine VX.parts 113 [108, 106, 104] rfl hSep_ ?_
      show VX _ _ _ _ _ _ _ [(0, Value.pointer (some ⟨g0, 0, none⟩)), (1, str (d1)), (3, Value.pointer (some ⟨g1, 0, none⟩)), (4, Value.pointer (some ⟨g3, 0, none⟩)), (5, Value.pointer (some ⟨g5, 0, none⟩)), (6, Value.pointer (some ⟨g7, 0, none⟩)), (11, Value.bool (decide (d0.1 = none))), (16, Value.func (.func 78) #[] ca11.toArray)] [(108, mone g7 (.cells [Value.bool th].toArray 4 (0, 0))), (106, mone g5 (.cells [Value.bool met].toArray 4 (0, 0))), (104, mone g3 (.cells [str (val)].toArray 9 (0, 0))), (114, mone D_ (.deferred (some []))), (1, mone g0 (.cells [Value.pointer ((d0.1).map fun g => ⟨g, 0, none⟩), Value.bool d0.2.1, Value.slice A0_2 (d0.2.2.length) (c0_2)].toArray E0 (0, 0))), (102, mone g1 (.cells [str (d1)].toArray 9 (0, 0))), (0, mout (wm W) (mone g0 (.cells [Value.pointer ((d0.1).map fun g => ⟨g, 0, none⟩), Value.bool d0.2.1, Value.slice A0_2 (d0.2.2.length) (c0_2)].toArray E0 (0, 0))))]
      refine VX.rs ?_
      refine VO.store (k := 1) (c' := [str ([])]) 104 rfl rfl (.inr ⟨tk9, rfl⟩) rfl rfl rfl rfl rfl ?_
      refine VO.store (k := 1) (c' := [Value.bool false]) 106 rfl rfl (.inr ⟨tk4, rfl⟩) rfl rfl rfl rfl rfl ?_
      refine VO.store (k := 1) (c' := [Value.bool false]) 108 rfl rfl (.inr ⟨tk4, rfl⟩) rfl rfl rfl rfl rfl ?_
      refine VO.k8 0 1 3 4 5 6 11 16 ?_
      refine VX.ret ?_
      refine ⟨114, rfl, ?_⟩
      refine ⟨_, _, res_run (rs := [.cell 4 9, .cell 5 4, .cell 6 4]) rfl (.one 104 rfl tk9 rfl ⟨_, _, _, mone_self _ _, rfl⟩ (.one 106 rfl tk4 rfl ⟨_, _, _, mone_self _ _, rfl⟩ (.one 108 rfl tk4 rfl ⟨_, _, _, mone_self _ _, rfl⟩ .nil))), fun W_ hI => out_of (l := [mone g0 (.cells [Value.pointer ((d0.1).map fun g => ⟨g, 0, none⟩), Value.bool d0.2.1, Value.slice A0_2 (d0.2.2.length) (c0_2)].toArray E0 (0, 0))]) hI [1] rfl rfl (mle_refl _) (fun hS_ => ?_)⟩
      dsimp only [packV]
      refine ⟨?_, ?_⟩
      rotate_left
      · rw [muns_one]
      all_goals (first | rfl | (first | (rw [hs] <;> first | done | rfl) | (rw [getAt_end hg hDn_] <;> first | done | rfl)))
    · -- FX
      rintro D_ _ ⟨val, met, th⟩ ⟨rfl, hs, hSep_⟩ _
      replace hs : getR d0.2.2 d1 = (val, met, th) := hs
      replace hSep_ : Seps (muns [mone g7 (.cells [Value.bool th].toArray 4 (0, 0)), mone g5 (.cells [Value.bool met].toArray 4 (0, 0)), mone g3 (.cells [str (val)].toArray 9 (0, 0))]) [mone g7 (.cells [Value.bool th].toArray 4 (0, 0)), mone g5 (.cells [Value.bool met].toArray 4 (0, 0)), mone g3 (.cells [str (val)].toArray 9 (0, 0))] := hSep_
      refine outBR ?_
      refine outR ?_
      refine ⟨114, rfl, ?_⟩
      refine ⟨_, _, res_run (rs := [.cell 4 9, .cell 5 4, .cell 6 4]) rfl (.one 113 rfl tk9 rfl ⟨_, _, _, hSep_.1 _ (.tail _ (.tail _ (.head _))) _ _ (mone_self _ _), rfl⟩ (.one 113 rfl tk4 rfl ⟨_, _, _, hSep_.1 _ (.tail _ (.head _)) _ _ (mone_self _ _), rfl⟩ (.one 113 rfl tk4 rfl ⟨_, _, _, hSep_.1 _ (.head _) _ _ (mone_self _ _), rfl⟩ .nil))), fun W_ hI => out_of (l := [mone g0 (.cells [Value.pointer ((d0.1).map fun g => ⟨g, 0, none⟩), Value.bool d0.2.1, Value.slice A0_2 (d0.2.2.length) (c0_2)].toArray E0 (0, 0))]) hI [1] rfl rfl (mle_refl _) (fun hS_ => ?_)⟩
      dsimp only [packV]
      refine ⟨?_, ?_⟩
      rotate_left
      · rw [muns_one]
      all_goals (first | rfl | (first | (rw [hs] <;> first | done | rfl) | (rw [getAt_end hg hDn_] <;> first | done | rfl)))
def exR : DRun := (1, 2, [(false, [97], []), (true, [98], [49])])
def exR2 : DRun := (3, 3, [(true, [97], [57])])
def exBy : Bytes := [1, 2, 2, 0, 1, 97, 1, 1, 98, 1, 49]
theorem venc_byte {x : Nat} (h : x < 128) : venc x = [UInt8.ofNat x] := by rw [venc_last h, ofNat_mod]
theorem exR_body : runBody exR = exBy := by
  simp only [runBody, exR, opEnc, List.map_cons, List.map_nil, List.flatten_cons, List.flatten_nil, List.length_cons, List.length_nil, Int.toNat_one, show Int.toNat 2 = 2 from rfl]
  rw [venc_byte (x := 1) (by decide), venc_byte (x := 2) (by decide)]; decide
theorem exR2_body : runBody exR2 = [3, 3, 1, 1, 1, 97, 1, 57] := by
  simp only [runBody, exR2, opEnc, List.map_cons, List.map_nil, List.flatten_cons, List.flatten_nil, List.length_cons, List.length_nil, show Int.toNat 3 = 3 from rfl]
  rw [venc_byte (x := 3) (by decide), venc_byte (x := 0 + 1) (by decide)]; decide
theorem exR_frame : rFrame exR = 11 :: exBy := by
  unfold rFrame fEnc; rw [exR_body, venc_byte (by decide)]; rfl
theorem exR2_frame : rFrame exR2 = [8, 3, 3, 1, 1, 1, 97, 1, 57] := by
  unfold rFrame fEnc; rw [exR2_body, venc_byte (by decide)]; rfl
def ruD1 : DDisk := (dSync (dWrite newD 2 (11 :: exBy)).1).1
def ruD2 : DDisk := (dSync (dWrite ruD1 2 [8, 3, 3, 1, 1, 1, 97, 1, 57]).1).1
theorem ruE : runEncode exR = (exBy, 0) := by unfold runEncode; rw [if_pos (by decide), exR_body]
theorem ru0 : uOpen newD = (newD, 0) := by decide +kernel
theorem ru0l : (runF (dRead newD 2).1).1 = [] := by decide +kernel
theorem ru1 : uFlush newD false [] exR = ((ruD1, false, [exR]), 0) := by
  unfold uFlush; rw [if_neg (by decide), if_neg (by decide), if_neg (by decide), exR_frame, if_neg (by decide +kernel), if_neg (by decide +kernel)]; rfl
theorem ru2 : uFlush ruD1 false [exR] (4, 4, []) = ((ruD1, false, [exR]), 15) := by
  unfold uFlush; rw [if_neg (by decide +kernel), if_neg (by decide), if_pos (by decide)]
theorem ru3 : uFlush ruD1 false [exR] (3, 3, [(true, [97], [57])]) = ((ruD2, false, [exR, exR2]), 0) := by
  show uFlush ruD1 false [exR] exR2 = _
  unfold uFlush; rw [if_neg (by decide +kernel), if_neg (by decide), if_neg (by decide), exR2_frame, if_neg (by decide +kernel), if_neg (by decide +kernel)]; rfl
theorem ruG1 : getR [exR] [98] = ([49], true, true) := by decide
theorem ruG2 : getR [exR, exR2] [97] = ([57], true, true) := by decide
theorem ruG3 : getR [exR, exR2] [98] = ([49], true, true) := by decide
theorem ruG4 : getR [exR, exR2] [99] = ([], false, false) := by decide
theorem ruN1 : endR [exR] = 2 := by decide
theorem ruC1 : runCheck (2, 1, []) = 2 := by decide
theorem ruC2 : runCheck (1, 1, [(true, [98], []), (true, [97], [])]) = 2 := by decide
theorem ruC3 (x : DOp) : runCheck (1, 1, List.replicate 1025 x) = 3 := if_pos (by rw [List.length_replicate]; decide)
end Go.Proofs.Ytgmdjhdgaddigaa
