/- Part 6 of the proof of LLetterReads: what it needs of the library, the walks and the plain laws. Conditions: those named in each theorem. -/
import Derived.Test.YtcikgnbpcombpaaLLetterReadsM5
namespace Go.Proofs.Ytcikgnbpcombpaa
section
set_option linter.unusedVariables false
set_option linter.unusedSimpArgs false
set_option maxRecDepth 4000
theorem fnOk51 : fnOk Try.prog 51 = true := by kernel_rfl
theorem tz74 : tz Try.prog 74 = some [.slice none 0 0, .bool false] := by kernel_rfl
abbrev nz1 (d0 : Bytes) := rNum d0 3 (0, false)
abbrev nz2 (d0 : Bytes) := rNum d0 1048576 (nz1 d0).2
abbrev nz3 (d0 : Bytes) := rNum d0 1048576 (nz2 d0).2
abbrev nz4 (d0 : Bytes) := rNum d0 3 (nz2 d0).2
abbrev nz5 (d0 : Bytes) := rNum d0 1048576 (nz4 d0).2
abbrev nz6 (d0 : Bytes) := rNum d0 1048576 (nz5 d0).2
abbrev nz7 (d0 : Bytes) := rNum d0 1048576 (nz3 d0).2
abbrev nz8 (d0 : Bytes) := rNum d0 4 (nz7 d0).2
theorem nz1_ok {d0 : Bytes} (h : rOk d0 ((0 : Int), false)) : rOk d0 (nz1 d0).2 ∧ 0 ≤ (nz1 d0).1 ∧ (nz1 d0).1 < 9223372036854775808 ∧ (0 ≤ (3 : Int) → (nz1 d0).1 ≤ 3) ∧ ((0 : Int), false).1 ≤ (nz1 d0).2.1 := rNum_ok h (by omega)
theorem nz2_ok {d0 : Bytes} (h : rOk d0 (nz1 d0).2) : rOk d0 (nz2 d0).2 ∧ 0 ≤ (nz2 d0).1 ∧ (nz2 d0).1 < 9223372036854775808 ∧ (0 ≤ (1048576 : Int) → (nz2 d0).1 ≤ 1048576) ∧ (nz1 d0).2.1 ≤ (nz2 d0).2.1 := rNum_ok h (by omega)
theorem nz3_ok {d0 : Bytes} (h : rOk d0 (nz2 d0).2) : rOk d0 (nz3 d0).2 ∧ 0 ≤ (nz3 d0).1 ∧ (nz3 d0).1 < 9223372036854775808 ∧ (0 ≤ (1048576 : Int) → (nz3 d0).1 ≤ 1048576) ∧ (nz2 d0).2.1 ≤ (nz3 d0).2.1 := rNum_ok h (by omega)
theorem nz4_ok {d0 : Bytes} (h : rOk d0 (nz2 d0).2) : rOk d0 (nz4 d0).2 ∧ 0 ≤ (nz4 d0).1 ∧ (nz4 d0).1 < 9223372036854775808 ∧ (0 ≤ (3 : Int) → (nz4 d0).1 ≤ 3) ∧ (nz2 d0).2.1 ≤ (nz4 d0).2.1 := rNum_ok h (by omega)
theorem nz5_ok {d0 : Bytes} (h : rOk d0 (nz4 d0).2) : rOk d0 (nz5 d0).2 ∧ 0 ≤ (nz5 d0).1 ∧ (nz5 d0).1 < 9223372036854775808 ∧ (0 ≤ (1048576 : Int) → (nz5 d0).1 ≤ 1048576) ∧ (nz4 d0).2.1 ≤ (nz5 d0).2.1 := rNum_ok h (by omega)
theorem nz6_ok {d0 : Bytes} (h : rOk d0 (nz5 d0).2) : rOk d0 (nz6 d0).2 ∧ 0 ≤ (nz6 d0).1 ∧ (nz6 d0).1 < 9223372036854775808 ∧ (0 ≤ (1048576 : Int) → (nz6 d0).1 ≤ 1048576) ∧ (nz5 d0).2.1 ≤ (nz6 d0).2.1 := rNum_ok h (by omega)
theorem nz7_ok {d0 : Bytes} (h : rOk d0 (nz3 d0).2) : rOk d0 (nz7 d0).2 ∧ 0 ≤ (nz7 d0).1 ∧ (nz7 d0).1 < 9223372036854775808 ∧ (0 ≤ (1048576 : Int) → (nz7 d0).1 ≤ 1048576) ∧ (nz3 d0).2.1 ≤ (nz7 d0).2.1 := rNum_ok h (by omega)
theorem nz8_ok {d0 : Bytes} (h : rOk d0 (nz7 d0).2) : rOk d0 (nz8 d0).2 ∧ 0 ≤ (nz8 d0).1 ∧ (nz8 d0).1 < 9223372036854775808 ∧ (0 ≤ (4 : Int) → (nz8 d0).1 ≤ 4) ∧ (nz7 d0).2.1 ≤ (nz8 d0).2.1 := rNum_ok h (by omega)
theorem fin0_lDec_ok {P : Prop} (h : P := by first | (unfold lDec; rw [lDecG_kind (by assumption) (by assumption) (by assumption)] <;> rfl) | (unfold lDec; rw [lDecG_no (lRun_h (R := lComm d0) (by assumption) (starts_fin hp (by first | exact .inl (by omega) | exact .inr (by assumption)))) (by first | exact .inl (by assumption) | exact .inr (.inl (by simp only [List.length_drop] at *; omega)) | exact .inr (.inl (by dsimp only; simp only [List.length_drop] at *; omega)) | exact .inr (.inr (by assumption)))] <;> rfl) | (unfold lDec; rw [lDecG_yes (lRun_h (R := lComm d0) (by assumption) (starts_fin hp (by first | exact .inl (by omega) | exact .inr (by assumption)))) (by assumption) (by first | (simp only [List.length_drop] at *; omega) | (dsimp only; simp only [List.length_drop] at *; omega)) (Decidable.not_not.1 (by assumption))] <;> rfl) | (unfold lDec; rw [lDecG_no (lRun_s (R := lComm d0) (by assumption) (by assumption) (comms_fin hp (by first | exact .inl (by omega) | exact .inr (by assumption)))) (by first | exact .inl (by assumption) | exact .inr (.inl (by simp only [List.length_drop] at *; omega)) | exact .inr (.inl (by dsimp only; simp only [List.length_drop] at *; omega)) | exact .inr (.inr (by assumption)))] <;> rfl) | (unfold lDec; rw [lDecG_yes (lRun_s (R := lComm d0) (by assumption) (by assumption) (comms_fin hp (by first | exact .inl (by omega) | exact .inr (by assumption)))) (by assumption) (by first | (simp only [List.length_drop] at *; omega) | (dsimp only; simp only [List.length_drop] at *; omega)) (Decidable.not_not.1 (by assumption))] <;> rfl) | (unfold lDec; rw [lDecG_no (show lRun (lComm d0) d0 = (((nz1 d0).1, (nz2 d0).1, 0, (nz3 d0).1, [], 0, 0, []), ((nz3 d0).2.1, (nz3 d0).2.2)) from lRun_a (by assumption) (by assumption)) (by first | exact .inl (by assumption) | exact .inr (.inl (by simp only [List.length_drop] at *; omega)) | exact .inr (.inl (by dsimp only; simp only [List.length_drop] at *; omega)) | exact .inr (.inr (by assumption)))] <;> rfl) | (unfold lDec; rw [lDecG_yes (show lRun (lComm d0) d0 = (((nz1 d0).1, (nz2 d0).1, 0, (nz3 d0).1, [], 0, 0, []), ((nz3 d0).2.1, (nz3 d0).2.2)) from lRun_a (by assumption) (by assumption)) (by assumption) (by first | (simp only [List.length_drop] at *; omega) | (dsimp only; simp only [List.length_drop] at *; omega)) (Decidable.not_not.1 (by assumption))] <;> rfl) | (exfalso; have n_ := lc_nums (Decidable.not_not.1 (by assumption)); omega)) : P := h
set_option maxHeartbeats 8000000 in
theorem lDec_ok (W : World) {v0 : Value} {d0 : List UInt8} (h0 : Rd (.sl .byte) (wm W) [v0] d0) : CallR Try.prog 20 [v0] W (mnil) (fun v m' => ∃ (s0 : List Value), v = .tuple #[.agg s0.toArray, .int .i64 ((lDec d0).2)] ∧ Ow TMessage m' s0 ((lDec d0).1)) := by
  obtain ⟨A0, c0, rfl, l0, k0⟩ := h0.slice
  simp only [maxLen] at k0
  refine CallR.ofA (n := 102) Try.func20 rfl rfl rfl ?_
  refine VC.rs ?_
  refine VO.alloc 102 rfl tz26 (fun g1 => ?_)
  refine VO.as ?_
  refine VO.k3 0 2 3 ?_
  refine VC.rs ?_
  refine VO.mv ?_
  refine VO.y rfl (.bst (cs := [Value.slice A0 (d0.length) (c0), Value.bool false]) rfl tst74 tz74 rfl) ?_
  refine VO.box (cs := [Value.slice A0 (d0.length) (c0), Value.bool false]) 104 rfl rfl rfl (fun g3 => ?_)
  refine VO.as ?_
  refine VO.k4 0 2 3 4 ?_
  refine VC.rs ?_
  refine VO.mv ?_
  refine VO.call 104 rfl fnOk50 rfl rfl (fun W hW => lNum_ok W (B_ := d0) (at_ := (0 : Int)) (d0 := (d0, false)) (hW.at (i := 104) rfl) (Rd.mono h0 (hW.out (i := 104) (j := 0) rfl rfl)) 3 bdk (by rfl) (by first | assumption | exact ⟨by omega, by omega⟩ | exact ⟨by (simp; done), by (simp; done)⟩)) (fun v5 m5 hv5 => ?_)
  try dsimp only at hv5
  obtain ⟨rfl, rfl⟩ := hv5
  have hfa6 := (nz1_ok (d0 := d0) (by first | assumption | exact ⟨by omega, by omega⟩ | exact ⟨by (simp; done), by (simp; done)⟩)).1
  try dsimp only at hfa6
  have hfa7 := (nz1_ok (d0 := d0) (by first | assumption | exact ⟨by omega, by omega⟩ | exact ⟨by (simp; done), by (simp; done)⟩)).1.1
  try dsimp only at hfa7
  have hfa8 := (nz1_ok (d0 := d0) (by first | assumption | exact ⟨by omega, by omega⟩ | exact ⟨by (simp; done), by (simp; done)⟩)).1.2
  try dsimp only at hfa8
  have hfa9 := (nz1_ok (d0 := d0) (by first | assumption | exact ⟨by omega, by omega⟩ | exact ⟨by (simp; done), by (simp; done)⟩)).2
  try dsimp only at hfa9
  obtain ⟨A10, hA10, hs10⟩ := h0.drop 1 (((nz1 d0).2.1 - (0 : Int)).toNat) rfl bd
  simp only [dropV, hA10]
  have hl10 : d0.length - (((nz1 d0).2.1 - (0 : Int)).toNat) = (d0.drop (nz1 d0).2.1.toNat).length := by simp only [List.length_drop] at *; omega
  have hd10 : Rd (.sl .byte) (wm W) [Value.slice A10 (d0.drop (nz1 d0).2.1.toNat).length (c0 - (((nz1 d0).2.1 - (0 : Int)).toNat))] (d0.drop (nz1 d0).2.1.toNat) := Rd.relen (by have h_ : Rd (.sl .byte) (wm W) [Value.slice A10 ((d0).length - (((nz1 d0).2.1 - (0 : Int)).toNat)) (c0 - (((nz1 d0).2.1 - (0 : Int)).toNat))] ((d0.drop (0 : Int).toNat).drop (((nz1 d0).2.1 - (0 : Int)).toNat)) := hs10; rw [drop_at (by omega) (by omega)] at h_; exact h_) rfl
  rw [hl10]
  refine VO.mv ?_
  refine VO.call 104 rfl fnOk50 rfl rfl (fun W hW => lNum_ok W (B_ := d0) (at_ := (nz1 d0).2.1) (d0 := (d0.drop (nz1 d0).2.1.toNat, (nz1 d0).2.2)) (hW.at (i := 104) rfl) (Rd.mono hd10 (hW.out (i := 104) (j := 0) rfl rfl)) 1048576 bdk (by rfl) (by first | assumption | exact ⟨by omega, by omega⟩ | exact ⟨by (simp; done), by (simp; done)⟩)) (fun v11 m11 hv11 => ?_)
  try dsimp only at hv11
  obtain ⟨rfl, rfl⟩ := hv11
  have hfa12 := (nz2_ok (d0 := d0) (by first | assumption | exact ⟨by omega, by omega⟩ | exact ⟨by (simp; done), by (simp; done)⟩)).1
  try dsimp only at hfa12
  have hfa13 := (nz2_ok (d0 := d0) (by first | assumption | exact ⟨by omega, by omega⟩ | exact ⟨by (simp; done), by (simp; done)⟩)).1.1
  try dsimp only at hfa13
  have hfa14 := (nz2_ok (d0 := d0) (by first | assumption | exact ⟨by omega, by omega⟩ | exact ⟨by (simp; done), by (simp; done)⟩)).1.2
  try dsimp only at hfa14
  have hfa15 := (nz2_ok (d0 := d0) (by first | assumption | exact ⟨by omega, by omega⟩ | exact ⟨by (simp; done), by (simp; done)⟩)).2
  try dsimp only at hfa15
  obtain ⟨A16, hA16, hs16⟩ := hd10.drop 1 (((nz2 d0).2.1 - (nz1 d0).2.1).toNat) rfl bd
  simp only [dropV, hA16]
  have hl16 : ((d0.drop (nz1 d0).2.1.toNat).length) - (((nz2 d0).2.1 - (nz1 d0).2.1).toNat) = (d0.drop (nz2 d0).2.1.toNat).length := by simp only [List.length_drop] at *; omega
  have hd16 : Rd (.sl .byte) (wm W) [Value.slice A16 (d0.drop (nz2 d0).2.1.toNat).length ((c0 - (((nz1 d0).2.1 - (0 : Int)).toNat)) - (((nz2 d0).2.1 - (nz1 d0).2.1).toNat))] (d0.drop (nz2 d0).2.1.toNat) := Rd.relen (by have h_ : Rd (.sl .byte) (wm W) [Value.slice A16 ((d0.drop (nz1 d0).2.1.toNat).length - (((nz2 d0).2.1 - (nz1 d0).2.1).toNat)) ((c0 - (((nz1 d0).2.1 - (0 : Int)).toNat)) - (((nz2 d0).2.1 - (nz1 d0).2.1).toNat))] ((d0.drop ((nz1 d0).2.1).toNat).drop (((nz2 d0).2.1 - (nz1 d0).2.1).toNat)) := hs16; rw [drop_at (by omega) (by omega)] at h_; exact h_) rfl
  rw [hl16]
  refine VO.y rfl (.bst (cs := [Value.int .i64 ((nz1 d0).1), Value.int .i64 ((nz2 d0).1), Value.int .u8 (0), Value.int .i64 (0), Value.slice none (0) (0), Value.int .i64 (0), Value.int .i64 (0), Value.slice none (0) (0)]) rfl tst26 tz26 rfl) ?_
  refine VO.alloc 118 rfl tz26 (fun g17 => ?_)
  refine VO.store (k := 8) (c' := [Value.int .i64 ((nz1 d0).1), Value.int .i64 ((nz2 d0).1), Value.int .u8 (0), Value.int .i64 (0), Value.slice none (0) (0), Value.int .i64 (0), Value.int .i64 (0), Value.slice none (0) (0)]) 118 rfl rfl (.inl tk26) rfl rfl rfl rfl rfl ?_
  refine VO.keep [118, 104, 102, 0] [(118, mone g17 (.cells [Value.int .i64 ((nz1 d0).1), Value.int .i64 ((nz2 d0).1), Value.int .u8 (0), Value.int .i64 (0), Value.slice none (0) (0), Value.int .i64 (0), Value.int .i64 (0), Value.slice none (0) (0)].toArray 26 (0, 0))), (104, mone g3 (.cells [Value.slice A16 ((d0.drop (nz2 d0).2.1.toNat).length) ((c0 - (((nz1 d0).2.1 - (0 : Int)).toNat)) - (((nz2 d0).2.1 - (nz1 d0).2.1).toNat)), Value.bool ((nz2 d0).2.2)].toArray 74 (0, 0))), (102, mone g1 (.cells [Value.int .i64 (0), Value.int .i64 (0), Value.int .u8 (0), Value.int .i64 (0), Value.slice none (0) (0), Value.int .i64 (0), Value.int .i64 (0), Value.slice none (0) (0)].toArray 26 (0, 0))), (0, wm W)] (by kernel_rfl) ?_
  refine VO.k5 0 2 3 4 5 ?_
  refine VC.seq ?_
  refine VC.rs ?_
  refine VO.y rfl (.fa rfl tst26 rfl) ?_
  refine VO.y rfl (.ld1 118 rfl tk3 rfl (cellsAt_one rfl rfl)) ?_
  refine VO.k6 0 2 3 4 5 17 ?_
  refine VC.block ?_
  refine VC.rs ?_
  refine VO.y rfl (.eql rfl rfl) ?_
  refine VO.as ?_
  refine VO.k7 0 2 3 4 5 17 18 ?_
  refine VC.cond rfl (fun hc19 => ?_) (fun hc19 => ?_)
  · -- T
    refine VC.rs ?_
    refine VO.mv ?_
    refine VO.call 104 rfl fnOk50 rfl rfl (fun W hW => lNum_ok W (B_ := d0) (at_ := (nz2 d0).2.1) (d0 := (d0.drop (nz2 d0).2.1.toNat, (nz2 d0).2.2)) (hW.at (i := 104) rfl) (Rd.mono hd16 (hW.out (i := 104) (j := 0) rfl rfl)) 3 bdk (by rfl) (by first | assumption | exact ⟨by omega, by omega⟩ | exact ⟨by (simp; done), by (simp; done)⟩)) (fun v20 m20 hv20 => ?_)
    try dsimp only at hv20
    obtain ⟨rfl, rfl⟩ := hv20
    have hfa21 := (nz4_ok (d0 := d0) (by first | assumption | exact ⟨by omega, by omega⟩ | exact ⟨by (simp; done), by (simp; done)⟩)).1
    try dsimp only at hfa21
    have hfa22 := (nz4_ok (d0 := d0) (by first | assumption | exact ⟨by omega, by omega⟩ | exact ⟨by (simp; done), by (simp; done)⟩)).1.1
    try dsimp only at hfa22
    have hfa23 := (nz4_ok (d0 := d0) (by first | assumption | exact ⟨by omega, by omega⟩ | exact ⟨by (simp; done), by (simp; done)⟩)).1.2
    try dsimp only at hfa23
    have hfa24 := (nz4_ok (d0 := d0) (by first | assumption | exact ⟨by omega, by omega⟩ | exact ⟨by (simp; done), by (simp; done)⟩)).2
    try dsimp only at hfa24
    obtain ⟨A25, hA25, hs25⟩ := hd16.drop 1 (((nz4 d0).2.1 - (nz2 d0).2.1).toNat) rfl bd
    simp only [dropV, hA25]
    have hl25 : ((d0.drop (nz2 d0).2.1.toNat).length) - (((nz4 d0).2.1 - (nz2 d0).2.1).toNat) = (d0.drop (nz4 d0).2.1.toNat).length := by simp only [List.length_drop] at *; omega
    have hd25 : Rd (.sl .byte) (wm W) [Value.slice A25 (d0.drop (nz4 d0).2.1.toNat).length (((c0 - (((nz1 d0).2.1 - (0 : Int)).toNat)) - (((nz2 d0).2.1 - (nz1 d0).2.1).toNat)) - (((nz4 d0).2.1 - (nz2 d0).2.1).toNat))] (d0.drop (nz4 d0).2.1.toNat) := Rd.relen (by have h_ : Rd (.sl .byte) (wm W) [Value.slice A25 ((d0.drop (nz2 d0).2.1.toNat).length - (((nz4 d0).2.1 - (nz2 d0).2.1).toNat)) (((c0 - (((nz1 d0).2.1 - (0 : Int)).toNat)) - (((nz2 d0).2.1 - (nz1 d0).2.1).toNat)) - (((nz4 d0).2.1 - (nz2 d0).2.1).toNat))] ((d0.drop ((nz2 d0).2.1).toNat).drop (((nz4 d0).2.1 - (nz2 d0).2.1).toNat)) := hs25; rw [drop_at (by omega) (by omega)] at h_; exact h_) rfl
    rw [hl25]
    refine VO.y rfl (.cvI (a := (nz4 d0).1) (c := (nz4 d0).1) rfl ⟨_, Try.underlying3⟩ Try.underlying22 (IntWalk.u8_in _ bd)) ?_
    refine VO.mv ?_
    refine VO.call 104 rfl fnOk50 rfl rfl (fun W hW => lNum_ok W (B_ := d0) (at_ := (nz4 d0).2.1) (d0 := (d0.drop (nz4 d0).2.1.toNat, (nz4 d0).2.2)) (hW.at (i := 104) rfl) (Rd.mono hd25 (hW.out (i := 104) (j := 0) rfl rfl)) 1048576 bdk (by rfl) (by first | assumption | exact ⟨by omega, by omega⟩ | exact ⟨by (simp; done), by (simp; done)⟩)) (fun v26 m26 hv26 => ?_)
    try dsimp only at hv26
    obtain ⟨rfl, rfl⟩ := hv26
    have hfa27 := (nz5_ok (d0 := d0) (by first | assumption | exact ⟨by omega, by omega⟩ | exact ⟨by (simp; done), by (simp; done)⟩)).1
    try dsimp only at hfa27
    have hfa28 := (nz5_ok (d0 := d0) (by first | assumption | exact ⟨by omega, by omega⟩ | exact ⟨by (simp; done), by (simp; done)⟩)).1.1
    try dsimp only at hfa28
    have hfa29 := (nz5_ok (d0 := d0) (by first | assumption | exact ⟨by omega, by omega⟩ | exact ⟨by (simp; done), by (simp; done)⟩)).1.2
    try dsimp only at hfa29
    have hfa30 := (nz5_ok (d0 := d0) (by first | assumption | exact ⟨by omega, by omega⟩ | exact ⟨by (simp; done), by (simp; done)⟩)).2
    try dsimp only at hfa30
    obtain ⟨A31, hA31, hs31⟩ := hd25.drop 1 (((nz5 d0).2.1 - (nz4 d0).2.1).toNat) rfl bd
    simp only [dropV, hA31]
    have hl31 : ((d0.drop (nz4 d0).2.1.toNat).length) - (((nz5 d0).2.1 - (nz4 d0).2.1).toNat) = (d0.drop (nz5 d0).2.1.toNat).length := by simp only [List.length_drop] at *; omega
    have hd31 : Rd (.sl .byte) (wm W) [Value.slice A31 (d0.drop (nz5 d0).2.1.toNat).length ((((c0 - (((nz1 d0).2.1 - (0 : Int)).toNat)) - (((nz2 d0).2.1 - (nz1 d0).2.1).toNat)) - (((nz4 d0).2.1 - (nz2 d0).2.1).toNat)) - (((nz5 d0).2.1 - (nz4 d0).2.1).toNat))] (d0.drop (nz5 d0).2.1.toNat) := Rd.relen (by have h_ : Rd (.sl .byte) (wm W) [Value.slice A31 ((d0.drop (nz4 d0).2.1.toNat).length - (((nz5 d0).2.1 - (nz4 d0).2.1).toNat)) ((((c0 - (((nz1 d0).2.1 - (0 : Int)).toNat)) - (((nz2 d0).2.1 - (nz1 d0).2.1).toNat)) - (((nz4 d0).2.1 - (nz2 d0).2.1).toNat)) - (((nz5 d0).2.1 - (nz4 d0).2.1).toNat))] ((d0.drop ((nz4 d0).2.1).toNat).drop (((nz5 d0).2.1 - (nz4 d0).2.1).toNat)) := hs31; rw [drop_at (by omega) (by omega)] at h_; exact h_) rfl
    rw [hl31]
    refine VO.y rfl (.fa rfl tst26 rfl) ?_
    refine VO.store (k := 1) (c' := [Value.int .i64 ((nz1 d0).1), Value.int .i64 ((nz2 d0).1), Value.int .u8 ((nz4 d0).1), Value.int .i64 (0), Value.slice none (0) (0), Value.int .i64 (0), Value.int .i64 (0), Value.slice none (0) (0)]) 118 rfl rfl (.inr ⟨tk22, rfl⟩) rfl rfl rfl rfl rfl ?_
    refine VO.y rfl (.fa rfl tst26 rfl) ?_
    refine VO.store (k := 1) (c' := [Value.int .i64 ((nz1 d0).1), Value.int .i64 ((nz2 d0).1), Value.int .u8 ((nz4 d0).1), Value.int .i64 ((nz5 d0).1), Value.slice none (0) (0), Value.int .i64 (0), Value.int .i64 (0), Value.slice none (0) (0)]) 118 rfl rfl (.inr ⟨tk3, rfl⟩) rfl rfl rfl rfl rfl ?_
    refine VO.keep [104, 118, 102, 0] [(104, mone g3 (.cells [Value.slice A31 ((d0.drop (nz5 d0).2.1.toNat).length) ((((c0 - (((nz1 d0).2.1 - (0 : Int)).toNat)) - (((nz2 d0).2.1 - (nz1 d0).2.1).toNat)) - (((nz4 d0).2.1 - (nz2 d0).2.1).toNat)) - (((nz5 d0).2.1 - (nz4 d0).2.1).toNat)), Value.bool ((nz5 d0).2.2)].toArray 74 (0, 0))), (118, mone g17 (.cells [Value.int .i64 ((nz1 d0).1), Value.int .i64 ((nz2 d0).1), Value.int .u8 ((nz4 d0).1), Value.int .i64 ((nz5 d0).1), Value.slice none (0) (0), Value.int .i64 (0), Value.int .i64 (0), Value.slice none (0) (0)].toArray 26 (0, 0))), (102, mone g1 (.cells [Value.int .i64 (0), Value.int .i64 (0), Value.int .u8 (0), Value.int .i64 (0), Value.slice none (0) (0), Value.int .i64 (0), Value.int .i64 (0), Value.slice none (0) (0)].toArray 26 (0, 0))), (0, wm W)] (by kernel_rfl) ?_
    refine VO.k7 0 2 3 4 5 17 18 ?_
    refine VC.rs ?_
    refine VO.mv ?_
    refine VO.call 104 rfl fnOk50 rfl rfl (fun W hW => lNum_ok W (B_ := d0) (at_ := (nz5 d0).2.1) (d0 := (d0.drop (nz5 d0).2.1.toNat, (nz5 d0).2.2)) (hW.at (i := 104) rfl) (Rd.mono hd31 (hW.out (i := 104) (j := 0) rfl rfl)) 1048576 bdk (by rfl) (by first | assumption | exact ⟨by omega, by omega⟩ | exact ⟨by (simp; done), by (simp; done)⟩)) (fun v32 m32 hv32 => ?_)
    try dsimp only at hv32
    obtain ⟨rfl, rfl⟩ := hv32
    have hfa33 := (nz6_ok (d0 := d0) (by first | assumption | exact ⟨by omega, by omega⟩ | exact ⟨by (simp; done), by (simp; done)⟩)).1
    try dsimp only at hfa33
    have hfa34 := (nz6_ok (d0 := d0) (by first | assumption | exact ⟨by omega, by omega⟩ | exact ⟨by (simp; done), by (simp; done)⟩)).1.1
    try dsimp only at hfa34
    have hfa35 := (nz6_ok (d0 := d0) (by first | assumption | exact ⟨by omega, by omega⟩ | exact ⟨by (simp; done), by (simp; done)⟩)).1.2
    try dsimp only at hfa35
    have hfa36 := (nz6_ok (d0 := d0) (by first | assumption | exact ⟨by omega, by omega⟩ | exact ⟨by (simp; done), by (simp; done)⟩)).2
    try dsimp only at hfa36
    obtain ⟨A37, hA37, hs37⟩ := hd31.drop 1 (((nz6 d0).2.1 - (nz5 d0).2.1).toNat) rfl bd
    simp only [dropV, hA37]
    have hl37 : ((d0.drop (nz5 d0).2.1.toNat).length) - (((nz6 d0).2.1 - (nz5 d0).2.1).toNat) = (d0.drop (nz6 d0).2.1.toNat).length := by simp only [List.length_drop] at *; omega
    have hd37 : Rd (.sl .byte) (wm W) [Value.slice A37 (d0.drop (nz6 d0).2.1.toNat).length (((((c0 - (((nz1 d0).2.1 - (0 : Int)).toNat)) - (((nz2 d0).2.1 - (nz1 d0).2.1).toNat)) - (((nz4 d0).2.1 - (nz2 d0).2.1).toNat)) - (((nz5 d0).2.1 - (nz4 d0).2.1).toNat)) - (((nz6 d0).2.1 - (nz5 d0).2.1).toNat))] (d0.drop (nz6 d0).2.1.toNat) := Rd.relen (by have h_ : Rd (.sl .byte) (wm W) [Value.slice A37 ((d0.drop (nz5 d0).2.1.toNat).length - (((nz6 d0).2.1 - (nz5 d0).2.1).toNat)) (((((c0 - (((nz1 d0).2.1 - (0 : Int)).toNat)) - (((nz2 d0).2.1 - (nz1 d0).2.1).toNat)) - (((nz4 d0).2.1 - (nz2 d0).2.1).toNat)) - (((nz5 d0).2.1 - (nz4 d0).2.1).toNat)) - (((nz6 d0).2.1 - (nz5 d0).2.1).toNat))] ((d0.drop ((nz5 d0).2.1).toNat).drop (((nz6 d0).2.1 - (nz5 d0).2.1).toNat)) := hs37; rw [drop_at (by omega) (by omega)] at h_; exact h_) rfl
    rw [hl37]
    refine VO.as ?_
    refine VO.k8 0 2 3 4 5 6 17 18 ?_
    refine VC.block ?_
    refine VC.inv ((138, mnil) :: _) (fun _ h => h.nilc 138) ?_
    refine VC.loop (G := Int × (List DStart) × (Option Addr) × Nat × Mem × (Option Addr) × Nat × Bool × Int) (fun g => [(6, Value.int .i64 ((g.1))), (0, Value.slice A0 (d0.length) (c0)), (2, Value.pointer (some ⟨g1, 0, none⟩)), (3, Value.int .i64 (0)), (4, Value.pointer (some ⟨g3, 0, none⟩)), (5, Value.pointer (some ⟨g17, 0, none⟩)), (17, Value.int .i64 ((nz1 d0).1)), (18, Value.bool (decide (((nz1 d0).1) = 1)))]) (fun g => [(138, (g.2.2.2.2.1)), (104, mone g3 (.cells [Value.slice (g.2.2.2.2.2.1) ((d0.drop (g.2.2.2.2.2.2.2.2).toNat).length) ((g.2.2.2.2.2.2.1)), Value.bool (g.2.2.2.2.2.2.2.1)].toArray 74 (0, 0))), (118, mone g17 (.cells [Value.int .i64 ((nz1 d0).1), Value.int .i64 ((nz2 d0).1), Value.int .u8 ((nz4 d0).1), Value.int .i64 ((nz5 d0).1), Value.slice (g.2.2.1) ((g.2.1).length) ((g.2.2.2.1)), Value.int .i64 (0), Value.int .i64 (0), Value.slice none (0) (0)].toArray 26 (0, 0))), (102, mone g1 (.cells [Value.int .i64 (0), Value.int .i64 (0), Value.int .u8 (0), Value.int .i64 (0), Value.slice none (0) (0), Value.int .i64 (0), Value.int .i64 (0), Value.slice none (0) (0)].toArray 26 (0, 0))), (0, wm W)]) (fun g => (pStarts d0 (nz6 d0).1.toNat (nz6 d0).2 = ((g.2.1) ++ (pStarts d0 (g.1).toNat ((g.2.2.2.2.2.2.2.2), (g.2.2.2.2.2.2.2.1))).1, (pStarts d0 (g.1).toNat ((g.2.2.2.2.2.2.2.2), (g.2.2.2.2.2.2.2.1))).2)) ∧ ((g.1) ≤ 1048576) ∧ ((g.2.1).length + (g.1).toNat ≤ 1048576) ∧ (rOk d0 ((g.2.2.2.2.2.2.2.2), (g.2.2.2.2.2.2.2.1))) ∧ (OwnL TStart (g.2.2.2.2.1) mnil (.slice (g.2.2.1) (g.2.1).length (g.2.2.2.1)) (g.2.1)) ∧ (Rd (.sl .byte) (wm W) [.slice (g.2.2.2.2.2.1) (d0.drop (g.2.2.2.2.2.2.2.2).toNat).length (g.2.2.2.2.2.2.1)] (d0.drop (g.2.2.2.2.2.2.2.2).toNat))) (fun g => (g.1).toNat) ((nz6 d0).1, [], none, 0, mnil, A37, ((((c0 - (((nz1 d0).2.1 - (0 : Int)).toNat)) - (((nz2 d0).2.1 - (nz1 d0).2.1).toNat)) - (((nz4 d0).2.1 - (nz2 d0).2.1).toNat)) - (((nz5 d0).2.1 - (nz4 d0).2.1).toNat)) - (((nz6 d0).2.1 - (nz5 d0).2.1).toNat), (nz6 d0).2.2, (nz6 d0).2.1) (⟨by rfl, by omega, by (simp; omega), by first | assumption | exact ⟨by omega, by (dsimp only; omega)⟩, (OwnL.nil TStart mnil mnil), hd37⟩) ⟨⟨rfl, rfl, rfl, rfl, rfl, rfl, rfl, rfl, trivial⟩, fun _ h => h.sub [138, 104, 118, 102, 0]⟩ ?_
    rintro ⟨n, ss, ss_A, ss_c, ss_m, bs_A, bs_c, bad, at_x⟩ ⟨hp, hn, hlen, hok, h_ss, h_bs⟩
    replace hp : pStarts d0 (nz6 d0).1.toNat (nz6 d0).2 = (ss ++ (pStarts d0 n.toNat (at_x, bad)).1, (pStarts d0 n.toNat (at_x, bad)).2) := hp
    replace hn : n ≤ 1048576 := hn
    replace hlen : ss.length + n.toNat ≤ 1048576 := hlen
    replace hok : rOk d0 (at_x, bad) := hok
    replace h_ss : OwnL TStart ss_m mnil (.slice ss_A ss.length ss_c) ss := h_ss
    replace h_bs : Rd (.sl .byte) (wm W) [.slice bs_A (d0.drop at_x.toNat).length bs_c] (d0.drop at_x.toNat) := h_bs
    show VC _ _ _ _ _ [(6, Value.int .i64 (n)), (0, Value.slice A0 (d0.length) (c0)), (2, Value.pointer (some ⟨g1, 0, none⟩)), (3, Value.int .i64 (0)), (4, Value.pointer (some ⟨g3, 0, none⟩)), (5, Value.pointer (some ⟨g17, 0, none⟩)), (17, Value.int .i64 ((nz1 d0).1)), (18, Value.bool (decide (((nz1 d0).1) = 1)))] [(138, ss_m), (104, mone g3 (.cells [Value.slice bs_A ((d0.drop at_x.toNat).length) (bs_c), Value.bool bad].toArray 74 (0, 0))), (118, mone g17 (.cells [Value.int .i64 ((nz1 d0).1), Value.int .i64 ((nz2 d0).1), Value.int .u8 ((nz4 d0).1), Value.int .i64 ((nz5 d0).1), Value.slice ss_A (ss.length) (ss_c), Value.int .i64 (0), Value.int .i64 (0), Value.slice none (0) (0)].toArray 26 (0, 0))), (102, mone g1 (.cells [Value.int .i64 (0), Value.int .i64 (0), Value.int .u8 (0), Value.int .i64 (0), Value.slice none (0) (0), Value.int .i64 (0), Value.int .i64 (0), Value.slice none (0) (0)].toArray 26 (0, 0))), (0, wm W)]
    have l_ss : ss.length ≤ ss_c := by obtain ⟨_, _, he, hl, _⟩ := h_ss.slice; simp only [Value.slice.injEq] at he; omega
    have k_ss : ss_c ≤ 9223372036854775807 := by obtain ⟨_, _, he, _, hl⟩ := h_ss.slice; simp only [Value.slice.injEq, maxLen] at he hl; omega
    have l_bs := Rd.room h_bs
    obtain ⟨hoka, hokb⟩ := (show 0 ≤ at_x ∧ at_x ≤ d0.length from hok)
    refine VC.seq ?_
    refine VC.rs ?_
    refine VO.mv ?_
    refine VO.y rfl (.gtr rfl rfl) ?_
    refine VO.mv ?_
    refine VO.dec (t := 31) rfl (fun hc39 => ?_) (fun hc39 => ?_)
    · -- TT
      refine VO.gy rfl ⟨_, rfl, rfl⟩ (.mv rfl) ?_
      refine VO.gy rfl ⟨_, rfl, rfl⟩ (.nilp rfl) ?_
      refine VO.gy rfl ⟨_, rfl, rfl⟩ (.fa rfl tst74 rfl) ?_
      refine VO.gy rfl ⟨_, rfl, rfl⟩ (.ld1 104 rfl tk4 rfl (cellsAt_one rfl rfl)) ?_
      refine VO.gy rfl ⟨_, rfl, rfl⟩ (.not rfl) ?_
      refine VO.y rfl (.pT rfl rfl) ?_
      refine VO.k9 0 2 3 4 5 6 17 18 37 ?_
      refine VC.condBN rfl (fun hc40 => ?_) (fun hc40 => ?_)
      · -- TTT
        refine VC.skip ?_
        refine outN ?_
        refine VC.seq ?_
        refine VC.block ?_
        refine VC.regD _ 8 [(0, true), (1, true), (2, true), (4, true), (3, false), (5, false), (6, true), (7, false)] follows (by kernel_rfl) (fun _ h => h.sub [138, 118, 102, 0]) ?_
        refine VD.y rfl rfl (.inl rfl) (.fa rfl tst26 rfl) ?_
        refine VD.y rfl rfl (.inl rfl) (.ld1 118 rfl tk23 rfl (cellsAt_one rfl rfl)) ?_
        refine VD.y rfl rfl (.inl rfl) (.mv rfl) ?_
        refine VD.y rfl rfl (.inl rfl) (.mv rfl) ?_
        refine VD.call 104 rfl rfl (.inl rfl) fnOk50 rfl rfl (fun _ _ h => h.sub [138, 118, 102, 0]) (fun W hW => lNum_ok W (B_ := d0) (at_ := at_x) (d0 := (d0.drop at_x.toNat, bad)) (hW.at (i := 104) rfl) (Rd.mono h_bs (hW.out (i := 104) (j := 0) rfl rfl)) 1048576 bdk (by rfl) (by first | assumption | exact ⟨by omega, by omega⟩ | exact ⟨by (simp; done), by (simp; done)⟩)) (fun v41 m41 hv41 => ?_)
        try dsimp only at hv41
        obtain ⟨rfl, rfl⟩ := hv41
        have hfa42 := (rNum_ok (B := d0) (m := 1048576) (s := (at_x, bad)) (by first | assumption | exact ⟨by omega, by omega⟩ | exact ⟨by (simp; done), by (simp; done)⟩) (by omega)).1
        try dsimp only at hfa42
        have hfa43 := (rNum_ok (B := d0) (m := 1048576) (s := (at_x, bad)) (by first | assumption | exact ⟨by omega, by omega⟩ | exact ⟨by (simp; done), by (simp; done)⟩) (by omega)).1.1
        try dsimp only at hfa43
        have hfa44 := (rNum_ok (B := d0) (m := 1048576) (s := (at_x, bad)) (by first | assumption | exact ⟨by omega, by omega⟩ | exact ⟨by (simp; done), by (simp; done)⟩) (by omega)).1.2
        try dsimp only at hfa44
        have hfa45 := (rNum_ok (B := d0) (m := 1048576) (s := (at_x, bad)) (by first | assumption | exact ⟨by omega, by omega⟩ | exact ⟨by (simp; done), by (simp; done)⟩) (by omega)).2
        try dsimp only at hfa45
        obtain ⟨A46, hA46, hs46⟩ := h_bs.drop 1 (((rNum d0 1048576 (at_x, bad)).2.1 - at_x).toNat) rfl bd
        simp only [dropV, hA46]
        have hl46 : ((d0.drop at_x.toNat).length) - (((rNum d0 1048576 (at_x, bad)).2.1 - at_x).toNat) = (d0.drop (rNum d0 1048576 (at_x, bad)).2.1.toNat).length := by simp only [List.length_drop] at *; omega
        have hd46 : Rd (.sl .byte) (wm W) [Value.slice A46 (d0.drop (rNum d0 1048576 (at_x, bad)).2.1.toNat).length (bs_c - (((rNum d0 1048576 (at_x, bad)).2.1 - at_x).toNat))] (d0.drop (rNum d0 1048576 (at_x, bad)).2.1.toNat) := Rd.relen (by have h_ : Rd (.sl .byte) (wm W) [Value.slice A46 ((d0.drop at_x.toNat).length - (((rNum d0 1048576 (at_x, bad)).2.1 - at_x).toNat)) (bs_c - (((rNum d0 1048576 (at_x, bad)).2.1 - at_x).toNat))] ((d0.drop at_x.toNat).drop (((rNum d0 1048576 (at_x, bad)).2.1 - at_x).toNat)) := hs46; rw [drop_at (by omega) (by omega)] at h_; exact h_) rfl
        rw [hl46]
        refine VD.call 104 rfl rfl (.inl rfl) fnOk50 rfl rfl (fun _ _ h => h.sub [138, 118, 102, 0]) (fun W hW => lNum_ok W (B_ := d0) (at_ := (rNum d0 1048576 (at_x, bad)).2.1) (d0 := (d0.drop (rNum d0 1048576 (at_x, bad)).2.1.toNat, (rNum d0 1048576 (at_x, bad)).2.2)) (hW.at (i := 104) rfl) (Rd.mono hd46 (hW.out (i := 104) (j := 0) rfl rfl)) 1048576 bdk (by rfl) (by first | assumption | exact ⟨by omega, by omega⟩ | exact ⟨by (simp; done), by (simp; done)⟩)) (fun v47 m47 hv47 => ?_)
        try dsimp only at hv47
        obtain ⟨rfl, rfl⟩ := hv47
        have hfa48 := (rNum_ok (B := d0) (m := 1048576) (s := ((rNum d0 1048576 (at_x, bad)).2.1, ((rNum d0 1048576 (at_x, bad)).2.2))) (by first | assumption | exact ⟨by omega, by omega⟩ | exact ⟨by (simp; done), by (simp; done)⟩) (by omega)).1
        try dsimp only at hfa48
        have hfa49 := (rNum_ok (B := d0) (m := 1048576) (s := ((rNum d0 1048576 (at_x, bad)).2.1, ((rNum d0 1048576 (at_x, bad)).2.2))) (by first | assumption | exact ⟨by omega, by omega⟩ | exact ⟨by (simp; done), by (simp; done)⟩) (by omega)).1.1
        try dsimp only at hfa49
        have hfa50 := (rNum_ok (B := d0) (m := 1048576) (s := ((rNum d0 1048576 (at_x, bad)).2.1, ((rNum d0 1048576 (at_x, bad)).2.2))) (by first | assumption | exact ⟨by omega, by omega⟩ | exact ⟨by (simp; done), by (simp; done)⟩) (by omega)).1.2
        try dsimp only at hfa50
        have hfa51 := (rNum_ok (B := d0) (m := 1048576) (s := ((rNum d0 1048576 (at_x, bad)).2.1, ((rNum d0 1048576 (at_x, bad)).2.2))) (by first | assumption | exact ⟨by omega, by omega⟩ | exact ⟨by (simp; done), by (simp; done)⟩) (by omega)).2
        try dsimp only at hfa51
        obtain ⟨A52, hA52, hs52⟩ := hd46.drop 1 (((rNum d0 1048576 ((rNum d0 1048576 (at_x, bad)).2.1, ((rNum d0 1048576 (at_x, bad)).2.2))).2.1 - (rNum d0 1048576 (at_x, bad)).2.1).toNat) rfl bd
        simp only [dropV, hA52]
        have hl52 : ((d0.drop (rNum d0 1048576 (at_x, bad)).2.1.toNat).length) - (((rNum d0 1048576 ((rNum d0 1048576 (at_x, bad)).2.1, ((rNum d0 1048576 (at_x, bad)).2.2))).2.1 - (rNum d0 1048576 (at_x, bad)).2.1).toNat) = (d0.drop (rNum d0 1048576 ((rNum d0 1048576 (at_x, bad)).2.1, ((rNum d0 1048576 (at_x, bad)).2.2))).2.1.toNat).length := by simp only [List.length_drop] at *; omega
        have hd52 : Rd (.sl .byte) (wm W) [Value.slice A52 (d0.drop (rNum d0 1048576 ((rNum d0 1048576 (at_x, bad)).2.1, ((rNum d0 1048576 (at_x, bad)).2.2))).2.1.toNat).length ((bs_c - (((rNum d0 1048576 (at_x, bad)).2.1 - at_x).toNat)) - (((rNum d0 1048576 ((rNum d0 1048576 (at_x, bad)).2.1, ((rNum d0 1048576 (at_x, bad)).2.2))).2.1 - (rNum d0 1048576 (at_x, bad)).2.1).toNat))] (d0.drop (rNum d0 1048576 ((rNum d0 1048576 (at_x, bad)).2.1, ((rNum d0 1048576 (at_x, bad)).2.2))).2.1.toNat) := Rd.relen (by have h_ : Rd (.sl .byte) (wm W) [Value.slice A52 ((d0.drop (rNum d0 1048576 (at_x, bad)).2.1.toNat).length - (((rNum d0 1048576 ((rNum d0 1048576 (at_x, bad)).2.1, ((rNum d0 1048576 (at_x, bad)).2.2))).2.1 - (rNum d0 1048576 (at_x, bad)).2.1).toNat)) ((bs_c - (((rNum d0 1048576 (at_x, bad)).2.1 - at_x).toNat)) - (((rNum d0 1048576 ((rNum d0 1048576 (at_x, bad)).2.1, ((rNum d0 1048576 (at_x, bad)).2.2))).2.1 - (rNum d0 1048576 (at_x, bad)).2.1).toNat))] ((d0.drop ((rNum d0 1048576 (at_x, bad)).2.1).toNat).drop (((rNum d0 1048576 ((rNum d0 1048576 (at_x, bad)).2.1, ((rNum d0 1048576 (at_x, bad)).2.2))).2.1 - (rNum d0 1048576 (at_x, bad)).2.1).toNat)) := hs52; rw [drop_at (by omega) (by omega)] at h_; exact h_) rfl
        rw [hl52]
        refine VD.y rfl rfl (.inl rfl) (.bst (cs := [Value.int .i64 ((rNum d0 1048576 (at_x, bad)).1), Value.int .i64 ((rNum d0 1048576 ((rNum d0 1048576 (at_x, bad)).2.1, ((rNum d0 1048576 (at_x, bad)).2.2))).1)]) rfl tst57 tz57 rfl) ?_
        refine VD.bsl (cs := [Value.int .i64 ((rNum d0 1048576 (at_x, bad)).1), Value.int .i64 ((rNum d0 1048576 ((rNum d0 1048576 (at_x, bad)).2.1, ((rNum d0 1048576 (at_x, bad)).2.2))).1)]) 154 rfl rfl rfl tsl23 tz57 rfl rfl (fun _ h => h.sub [138, 118, 102, 0]) (fun g53 => ?_)
        refine VD.nil rfl ?_ rfl
        obtain ⟨mo55, cs55, hM55, hA55, hC55⟩ := h_ss
        refine VO.app 138 rfl rfl rfl tsl23 tz57 rfl rfl hM55 hA55 (.row 154 _ _ _ 1 1 _ _ Try.underlying23 rfl (cellsAt_one rfl rfl)) (by simp [Value.oneCell']) bdm bd (by decide) (fun v55 m55 hN55 => ?_)
        have ho55 : OwnL TStart m55 mnil v55 (ss ++ [((rNum d0 1048576 (at_x, bad)).1, (rNum d0 1048576 ((rNum d0 1048576 (at_x, bad)).2.1, ((rNum d0 1048576 (at_x, bad)).2.2))).1)]) := OwnL.one hC55 hN55 (mk_Start (m := _) ((rNum d0 1048576 (at_x, bad)).1) ((rNum d0 1048576 ((rNum d0 1048576 (at_x, bad)).2.1, ((rNum d0 1048576 (at_x, bad)).2.2))).1) bdk bdk)
        obtain ⟨A55, c55, rfl, l55, k55⟩ := ho55.slice
        simp only [maxLen] at k55
        refine VO.y rfl (.fa rfl tst26 rfl) ?_
        refine VO.store (k := 1) (c' := [Value.int .i64 ((nz1 d0).1), Value.int .i64 ((nz2 d0).1), Value.int .u8 ((nz4 d0).1), Value.int .i64 ((nz5 d0).1), Value.slice A55 ((ss ++ [((rNum d0 1048576 (at_x, bad)).1, (rNum d0 1048576 ((rNum d0 1048576 (at_x, bad)).2.1, ((rNum d0 1048576 (at_x, bad)).2.2))).1)]).length) (c55), Value.int .i64 (0), Value.int .i64 (0), Value.slice none (0) (0)]) 118 rfl rfl (.inr ⟨tk23, rfl⟩) rfl rfl rfl rfl rfl ?_
        refine VO.keep [104, 138, 118, 102, 0] [(104, mone g3 (.cells [Value.slice A52 ((d0.drop (rNum d0 1048576 ((rNum d0 1048576 (at_x, bad)).2.1, ((rNum d0 1048576 (at_x, bad)).2.2))).2.1.toNat).length) ((bs_c - (((rNum d0 1048576 (at_x, bad)).2.1 - at_x).toNat)) - (((rNum d0 1048576 ((rNum d0 1048576 (at_x, bad)).2.1, ((rNum d0 1048576 (at_x, bad)).2.2))).2.1 - (rNum d0 1048576 (at_x, bad)).2.1).toNat)), Value.bool ((rNum d0 1048576 ((rNum d0 1048576 (at_x, bad)).2.1, ((rNum d0 1048576 (at_x, bad)).2.2))).2.2)].toArray 74 (0, 0))), (138, m55), (118, mone g17 (.cells [Value.int .i64 ((nz1 d0).1), Value.int .i64 ((nz2 d0).1), Value.int .u8 ((nz4 d0).1), Value.int .i64 ((nz5 d0).1), Value.slice A55 ((ss ++ [((rNum d0 1048576 (at_x, bad)).1, (rNum d0 1048576 ((rNum d0 1048576 (at_x, bad)).2.1, ((rNum d0 1048576 (at_x, bad)).2.2))).1)]).length) (c55), Value.int .i64 (0), Value.int .i64 (0), Value.slice none (0) (0)].toArray 26 (0, 0))), (102, mone g1 (.cells [Value.int .i64 (0), Value.int .i64 (0), Value.int .u8 (0), Value.int .i64 (0), Value.slice none (0) (0), Value.int .i64 (0), Value.int .i64 (0), Value.slice none (0) (0)].toArray 26 (0, 0))), (0, wm W)] (by kernel_rfl) ?_
        refine VO.k9 0 2 3 4 5 6 17 18 37 ?_
        refine outBN ?_
        refine outN ?_
        refine VC.reg ?_
        refine VO.mv ?_
        refine VO.y rfl (.sub rfl rfl rfl ⟨bd, bd⟩) ?_
        refine VO.as ?_
        refine VO.k9 0 2 3 4 5 6 17 18 37 ?_
        exact outN ⟨⟨n - 1, ss ++ [((rNum d0 1048576 (at_x, bad)).1, (rNum d0 1048576 ((rNum d0 1048576 (at_x, bad)).2.1, ((rNum d0 1048576 (at_x, bad)).2.2))).1)], A55, c55, m55, A52, (bs_c - (((rNum d0 1048576 (at_x, bad)).2.1 - at_x).toNat)) - (((rNum d0 1048576 ((rNum d0 1048576 (at_x, bad)).2.1, ((rNum d0 1048576 (at_x, bad)).2.2))).2.1 - (rNum d0 1048576 (at_x, bad)).2.1).toNat), (rNum d0 1048576 ((rNum d0 1048576 (at_x, bad)).2.1, ((rNum d0 1048576 (at_x, bad)).2.2))).2.2, (rNum d0 1048576 ((rNum d0 1048576 (at_x, bad)).2.1, ((rNum d0 1048576 (at_x, bad)).2.2))).2.1⟩, ⟨by exact starts_step hp (by omega) (by assumption), by omega, by (simp only [List.length_append, List.length_cons, List.length_nil]; omega), by first | assumption | exact ⟨by omega, by (dsimp only; omega)⟩, ho55, hd52⟩, bd, ⟨⟨rfl, rfl, rfl, rfl, rfl, rfl, rfl, rfl, trivial⟩, fun _ h => Inv.sub h [138, 104, 118, 102, 0]⟩⟩
      · -- TTF
        refine VC.exit ?_
        refine outE ?_
        refine outE ?_
        refine outBB ?_
        refine outBN ?_
        refine outN ?_
        refine VC.seq ?_
        refine VC.rs ?_
        refine VO.mv ?_
        refine VO.y rfl (.nilp rfl) ?_
        refine VO.y rfl (.fa rfl tst74 rfl) ?_
        refine VO.y rfl (.ld1 104 rfl tk4 rfl (cellsAt_one rfl rfl)) ?_
        refine VO.mv ?_
        refine VO.known (t := 87) true rfl hc40 ?_
        refine VO.gN ?_
        refine VO.gN ?_
        refine VO.gN ?_
        refine VO.gN ?_
        refine VO.gN ?_
        refine VO.gN ?_
        refine VO.y rfl (.pT rfl rfl) ?_
        refine VO.mv ?_
        refine VO.gN ?_
        refine VO.gN ?_
        refine VO.gN ?_
        refine VO.y rfl (.pT rfl rfl) ?_
        refine VO.keep [138, 104, 118, 102, 0] [(138, ss_m), (104, mone g3 (.cells [Value.slice bs_A ((d0.drop at_x.toNat).length) (bs_c), Value.bool bad].toArray 74 (0, 0))), (118, mone g17 (.cells [Value.int .i64 ((nz1 d0).1), Value.int .i64 ((nz2 d0).1), Value.int .u8 ((nz4 d0).1), Value.int .i64 ((nz5 d0).1), Value.slice ss_A (ss.length) (ss_c), Value.int .i64 (0), Value.int .i64 (0), Value.slice none (0) (0)].toArray 26 (0, 0))), (102, mone g1 (.cells [Value.int .i64 (0), Value.int .i64 (0), Value.int .u8 (0), Value.int .i64 (0), Value.slice none (0) (0), Value.int .i64 (0), Value.int .i64 (0), Value.slice none (0) (0)].toArray 26 (0, 0))), (0, wm W)] (by kernel_rfl) ?_
        refine VO.k10 0 2 3 4 5 6 17 18 37 99 ?_
        refine VC.condT rfl ?_
        refine VC.rs ?_
        refine VO.y rfl (.bst (cs := [Value.int .i64 (0), Value.int .i64 (0), Value.int .u8 (0), Value.int .i64 (0), Value.slice none (0) (0), Value.int .i64 (0), Value.int .i64 (0), Value.slice none (0) (0)]) rfl tst26 tz26 rfl) ?_
        refine VO.store (k := 8) (c' := [Value.int .i64 (0), Value.int .i64 (0), Value.int .u8 (0), Value.int .i64 (0), Value.slice none (0) (0), Value.int .i64 (0), Value.int .i64 (0), Value.slice none (0) (0)]) 102 rfl rfl (.inl tk26) rfl rfl rfl rfl rfl ?_
        refine VO.as ?_
        refine VO.k10 0 2 3 4 5 6 17 18 37 99 ?_
        refine VC.ret ?_
        refine outR ?_
        refine ⟨_, _, res_run (rs := [.cell 2 26, .tmp 3]) rfl (.agg 102 rfl tk26 rfl ⟨_, _, _, mone_self _ _, Nat.le_of_ble_eq_true rfl, rfl⟩ (.tmp rfl .nil)), fun W_ hI => out_of (l := []) hI [] rfl rfl (mle_refl _) (fun hS_ => ?_)⟩
        dsimp only [packV]
        have he0 : ((lDec d0).1 : Ty.Den TMessage) = (0, 0, 0, 0, [], 0, 0, []) := by first | rfl | (exact fin0_lDec_ok)
        refine ⟨[Value.int .i64 (0), Value.int .i64 (0), Value.int .u8 (0), Value.int .i64 (0), Value.slice none (0) (0), Value.int .i64 (0), Value.int .i64 (0), Value.slice none (0) (0)], ?_, ?_⟩
        rotate_left
        · rw [he0]; exact (mkO_Message 0 0 0 0 [] 0 0 [] (Seps.nilAt 1 (Seps.nilAt 0 hS_)) bdk bdk bdk bdk (Ow.nil _ _) bdk bdk (Ow.nil _ _))
        all_goals (first | rfl | (exact fin0_lDec_ok))
    · -- TF
      refine VO.gN ?_
      refine VO.gN ?_
      refine VO.gN ?_
      refine VO.gN ?_
      refine VO.gN ?_
      refine VO.y rfl (.pF rfl rfl) ?_
      refine VO.k9 0 2 3 4 5 6 17 18 37 ?_
      refine VC.condF rfl ?_
      refine VC.exit ?_
      refine outE ?_
      refine outE ?_
      refine outBB ?_
      refine outBN ?_
      refine outN ?_
      refine VC.seq ?_
      refine VC.rs ?_
      refine VO.mv ?_
      refine VO.y rfl (.nilp rfl) ?_
      refine VO.y rfl (.fa rfl tst74 rfl) ?_
      refine VO.y rfl (.ld1 104 rfl tk4 rfl (cellsAt_one rfl rfl)) ?_
      refine VO.mv ?_
      refine VO.decB (t := 87) rfl (fun hc56 => ?_) (fun hc56 => ?_)
      · -- TFT
        refine VO.gN ?_
        refine VO.gN ?_
        refine VO.gN ?_
        refine VO.gN ?_
        refine VO.gN ?_
        refine VO.gN ?_
        refine VO.y rfl (.pT rfl rfl) ?_
        refine VO.mv ?_
        refine VO.gN ?_
        refine VO.gN ?_
        refine VO.gN ?_
        refine VO.y rfl (.pT rfl rfl) ?_
        refine VO.keep [138, 104, 118, 102, 0] [(138, ss_m), (104, mone g3 (.cells [Value.slice bs_A ((d0.drop at_x.toNat).length) (bs_c), Value.bool bad].toArray 74 (0, 0))), (118, mone g17 (.cells [Value.int .i64 ((nz1 d0).1), Value.int .i64 ((nz2 d0).1), Value.int .u8 ((nz4 d0).1), Value.int .i64 ((nz5 d0).1), Value.slice ss_A (ss.length) (ss_c), Value.int .i64 (0), Value.int .i64 (0), Value.slice none (0) (0)].toArray 26 (0, 0))), (102, mone g1 (.cells [Value.int .i64 (0), Value.int .i64 (0), Value.int .u8 (0), Value.int .i64 (0), Value.slice none (0) (0), Value.int .i64 (0), Value.int .i64 (0), Value.slice none (0) (0)].toArray 26 (0, 0))), (0, wm W)] (by kernel_rfl) ?_
        refine VO.k10 0 2 3 4 5 6 17 18 37 99 ?_
        refine VC.condT rfl ?_
        refine VC.rs ?_
        refine VO.y rfl (.bst (cs := [Value.int .i64 (0), Value.int .i64 (0), Value.int .u8 (0), Value.int .i64 (0), Value.slice none (0) (0), Value.int .i64 (0), Value.int .i64 (0), Value.slice none (0) (0)]) rfl tst26 tz26 rfl) ?_
        refine VO.store (k := 8) (c' := [Value.int .i64 (0), Value.int .i64 (0), Value.int .u8 (0), Value.int .i64 (0), Value.slice none (0) (0), Value.int .i64 (0), Value.int .i64 (0), Value.slice none (0) (0)]) 102 rfl rfl (.inl tk26) rfl rfl rfl rfl rfl ?_
        refine VO.as ?_
        refine VO.k10 0 2 3 4 5 6 17 18 37 99 ?_
        refine VC.ret ?_
        refine outR ?_
        refine ⟨_, _, res_run (rs := [.cell 2 26, .tmp 3]) rfl (.agg 102 rfl tk26 rfl ⟨_, _, _, mone_self _ _, Nat.le_of_ble_eq_true rfl, rfl⟩ (.tmp rfl .nil)), fun W_ hI => out_of (l := []) hI [] rfl rfl (mle_refl _) (fun hS_ => ?_)⟩
        dsimp only [packV]
        have he0 : ((lDec d0).1 : Ty.Den TMessage) = (0, 0, 0, 0, [], 0, 0, []) := by first | rfl | (exact fin0_lDec_ok)
        refine ⟨[Value.int .i64 (0), Value.int .i64 (0), Value.int .u8 (0), Value.int .i64 (0), Value.slice none (0) (0), Value.int .i64 (0), Value.int .i64 (0), Value.slice none (0) (0)], ?_, ?_⟩
        rotate_left
        · rw [he0]; exact (mkO_Message 0 0 0 0 [] 0 0 [] (Seps.nilAt 1 (Seps.nilAt 0 hS_)) bdk bdk bdk bdk (Ow.nil _ _) bdk bdk (Ow.nil _ _))
        all_goals (first | rfl | (exact fin0_lDec_ok))
      · -- TFF
        refine VO.gy rfl ⟨_, rfl, rfl⟩ (.mv rfl) ?_
        refine VO.gy rfl ⟨_, rfl, rfl⟩ (.nilp rfl) ?_
        refine VO.gy rfl ⟨_, rfl, rfl⟩ (.fa rfl tst74 rfl) ?_
        refine VO.gy rfl ⟨_, rfl, rfl⟩ (.ld1 104 rfl tk30 rfl (cellsAt_one rfl rfl)) ?_
        refine VO.gy rfl ⟨_, rfl, rfl⟩ (.lenS rfl tsl30) ?_
        refine VO.gy rfl ⟨_, rfl, rfl⟩ (.gtr rfl rfl) ?_
        refine VO.y rfl (.pF rfl rfl) ?_
        refine VO.mv ?_
        refine VO.dec (t := 95) rfl (fun hc57 => ?_) (fun hc57 => ?_)
        · -- TFFT
          refine VO.gN ?_
          refine VO.gN ?_
          refine VO.gN ?_
          refine VO.y rfl (.pT rfl rfl) ?_
          refine VO.keep [138, 104, 118, 102, 0] [(138, ss_m), (104, mone g3 (.cells [Value.slice bs_A ((d0.drop at_x.toNat).length) (bs_c), Value.bool bad].toArray 74 (0, 0))), (118, mone g17 (.cells [Value.int .i64 ((nz1 d0).1), Value.int .i64 ((nz2 d0).1), Value.int .u8 ((nz4 d0).1), Value.int .i64 ((nz5 d0).1), Value.slice ss_A (ss.length) (ss_c), Value.int .i64 (0), Value.int .i64 (0), Value.slice none (0) (0)].toArray 26 (0, 0))), (102, mone g1 (.cells [Value.int .i64 (0), Value.int .i64 (0), Value.int .u8 (0), Value.int .i64 (0), Value.slice none (0) (0), Value.int .i64 (0), Value.int .i64 (0), Value.slice none (0) (0)].toArray 26 (0, 0))), (0, wm W)] (by kernel_rfl) ?_
          refine VO.k10 0 2 3 4 5 6 17 18 37 99 ?_
          refine VC.condT rfl ?_
          refine VC.rs ?_
          refine VO.y rfl (.bst (cs := [Value.int .i64 (0), Value.int .i64 (0), Value.int .u8 (0), Value.int .i64 (0), Value.slice none (0) (0), Value.int .i64 (0), Value.int .i64 (0), Value.slice none (0) (0)]) rfl tst26 tz26 rfl) ?_
          refine VO.store (k := 8) (c' := [Value.int .i64 (0), Value.int .i64 (0), Value.int .u8 (0), Value.int .i64 (0), Value.slice none (0) (0), Value.int .i64 (0), Value.int .i64 (0), Value.slice none (0) (0)]) 102 rfl rfl (.inl tk26) rfl rfl rfl rfl rfl ?_
          refine VO.as ?_
          refine VO.k10 0 2 3 4 5 6 17 18 37 99 ?_
          refine VC.ret ?_
          refine outR ?_
          refine ⟨_, _, res_run (rs := [.cell 2 26, .tmp 3]) rfl (.agg 102 rfl tk26 rfl ⟨_, _, _, mone_self _ _, Nat.le_of_ble_eq_true rfl, rfl⟩ (.tmp rfl .nil)), fun W_ hI => out_of (l := []) hI [] rfl rfl (mle_refl _) (fun hS_ => ?_)⟩
          dsimp only [packV]
          have he0 : ((lDec d0).1 : Ty.Den TMessage) = (0, 0, 0, 0, [], 0, 0, []) := by first | rfl | (exact fin0_lDec_ok)
          refine ⟨[Value.int .i64 (0), Value.int .i64 (0), Value.int .u8 (0), Value.int .i64 (0), Value.slice none (0) (0), Value.int .i64 (0), Value.int .i64 (0), Value.slice none (0) (0)], ?_, ?_⟩
          rotate_left
          · rw [he0]; exact (mkO_Message 0 0 0 0 [] 0 0 [] (Seps.nilAt 1 (Seps.nilAt 0 hS_)) bdk bdk bdk bdk (Ow.nil _ _) bdk bdk (Ow.nil _ _))
          all_goals (first | rfl | (exact fin0_lDec_ok))
        · -- TFFF
          refine VO.gy rfl ⟨_, rfl, rfl⟩ (.ldA 118 rfl tk26 rfl (cellsAt_one rfl rfl)) ?_
          refine VO.gcallN 158 rfl ⟨_, rfl, rfl⟩ fnOk13 rfl (fun W hW => lCheck_ok W (mk_Message (m := wm W) ((nz1 d0).1) ((nz2 d0).1) ((nz4 d0).1) ((nz5 d0).1) ss 0 0 [] bdk bdk bdk bdk (OwnL.rd h_ss (hW.at (i := 138) rfl) (mle_nil _)) bdk bdk (Rd.nil _ _ none 0 (Nat.zero_le _)))) (fun v58 m58 hv58 => ?_)
          try dsimp only at hv58
          subst hv58
          have hfa59 := lCheck_range ((nz1 d0).1, (nz2 d0).1, (nz4 d0).1, (nz5 d0).1, ss, 0, 0, [])
          refine VO.gy rfl ⟨_, rfl, rfl⟩ (.neq rfl rfl) ?_
          refine VO.y rfl (.pF rfl rfl) ?_
          refine VO.keep [138, 104, 118, 102, 0] [(138, ss_m), (104, mone g3 (.cells [Value.slice bs_A ((d0.drop at_x.toNat).length) (bs_c), Value.bool bad].toArray 74 (0, 0))), (118, mone g17 (.cells [Value.int .i64 ((nz1 d0).1), Value.int .i64 ((nz2 d0).1), Value.int .u8 ((nz4 d0).1), Value.int .i64 ((nz5 d0).1), Value.slice ss_A (ss.length) (ss_c), Value.int .i64 (0), Value.int .i64 (0), Value.slice none (0) (0)].toArray 26 (0, 0))), (102, mone g1 (.cells [Value.int .i64 (0), Value.int .i64 (0), Value.int .u8 (0), Value.int .i64 (0), Value.slice none (0) (0), Value.int .i64 (0), Value.int .i64 (0), Value.slice none (0) (0)].toArray 26 (0, 0))), (0, wm W)] (by kernel_rfl) ?_
          refine VO.k10 0 2 3 4 5 6 17 18 37 99 ?_
          refine VC.cond rfl (fun hc60 => ?_) (fun hc60 => ?_)
          · -- TFFFT
            refine VC.rs ?_
            refine VO.y rfl (.bst (cs := [Value.int .i64 (0), Value.int .i64 (0), Value.int .u8 (0), Value.int .i64 (0), Value.slice none (0) (0), Value.int .i64 (0), Value.int .i64 (0), Value.slice none (0) (0)]) rfl tst26 tz26 rfl) ?_
            refine VO.store (k := 8) (c' := [Value.int .i64 (0), Value.int .i64 (0), Value.int .u8 (0), Value.int .i64 (0), Value.slice none (0) (0), Value.int .i64 (0), Value.int .i64 (0), Value.slice none (0) (0)]) 102 rfl rfl (.inl tk26) rfl rfl rfl rfl rfl ?_
            refine VO.as ?_
            refine VO.k10 0 2 3 4 5 6 17 18 37 99 ?_
            refine VC.ret ?_
            refine outR ?_
            refine ⟨_, _, res_run (rs := [.cell 2 26, .tmp 3]) rfl (.agg 102 rfl tk26 rfl ⟨_, _, _, mone_self _ _, Nat.le_of_ble_eq_true rfl, rfl⟩ (.tmp rfl .nil)), fun W_ hI => out_of (l := []) hI [] rfl rfl (mle_refl _) (fun hS_ => ?_)⟩
            dsimp only [packV]
            have he0 : ((lDec d0).1 : Ty.Den TMessage) = (0, 0, 0, 0, [], 0, 0, []) := by first | rfl | (exact fin0_lDec_ok)
            refine ⟨[Value.int .i64 (0), Value.int .i64 (0), Value.int .u8 (0), Value.int .i64 (0), Value.slice none (0) (0), Value.int .i64 (0), Value.int .i64 (0), Value.slice none (0) (0)], ?_, ?_⟩
            rotate_left
            · rw [he0]; exact (mkO_Message 0 0 0 0 [] 0 0 [] (Seps.nilAt 1 (Seps.nilAt 0 hS_)) bdk bdk bdk bdk (Ow.nil _ _) bdk bdk (Ow.nil _ _))
            all_goals (first | rfl | (exact fin0_lDec_ok))
          · -- TFFFF
            refine VC.skip ?_
            refine outN ?_
            refine VC.rs ?_
            refine VO.y rfl (.ldA 118 rfl tk26 rfl (cellsAt_one rfl rfl)) ?_
            refine VO.store (k := 8) (c' := [Value.int .i64 ((nz1 d0).1), Value.int .i64 ((nz2 d0).1), Value.int .u8 ((nz4 d0).1), Value.int .i64 ((nz5 d0).1), Value.slice ss_A (ss.length) (ss_c), Value.int .i64 (0), Value.int .i64 (0), Value.slice none (0) (0)]) 102 rfl rfl (.inl tk26) rfl rfl rfl rfl rfl ?_
            refine VO.as ?_
            refine VO.k10 0 2 3 4 5 6 17 18 37 99 ?_
            refine VC.ret ?_
            refine ⟨_, _, res_run (rs := [.cell 2 26, .tmp 3]) rfl (.agg 102 rfl tk26 rfl ⟨_, _, _, mone_self _ _, Nat.le_of_ble_eq_true rfl, rfl⟩ (.tmp rfl .nil)), fun W_ hI => out_of (l := [ss_m]) hI [138] rfl rfl (mle_refl _) (fun hS_ => ?_)⟩
            dsimp only [packV]
            have he0 : ((lDec d0).1 : Ty.Den TMessage) = ((nz1 d0).1, (nz2 d0).1, (nz4 d0).1, (nz5 d0).1, ss, 0, 0, []) := by first | rfl | (exact fin0_lDec_ok)
            refine ⟨[Value.int .i64 ((nz1 d0).1), Value.int .i64 ((nz2 d0).1), Value.int .u8 ((nz4 d0).1), Value.int .i64 ((nz5 d0).1), Value.slice ss_A (ss.length) (ss_c), Value.int .i64 (0), Value.int .i64 (0), Value.slice none (0) (0)], ?_, ?_⟩
            rotate_left
            · rw [he0]; exact (mkO_Message ((nz1 d0).1) ((nz2 d0).1) ((nz4 d0).1) ((nz5 d0).1) ss 0 0 [] (Seps.nilAt 1 hS_) bdk bdk bdk bdk (OwnL.ow h_ss rfl) bdk bdk (Ow.nil _ _))
            all_goals (first | rfl | (exact fin0_lDec_ok))
  · -- F
    refine VC.rs ?_
    refine VO.y rfl (.eql rfl rfl) ?_
    refine VO.as ?_
    refine VO.keep [118, 104, 102, 0] [(118, mone g17 (.cells [Value.int .i64 ((nz1 d0).1), Value.int .i64 ((nz2 d0).1), Value.int .u8 (0), Value.int .i64 (0), Value.slice none (0) (0), Value.int .i64 (0), Value.int .i64 (0), Value.slice none (0) (0)].toArray 26 (0, 0))), (104, mone g3 (.cells [Value.slice A16 ((d0.drop (nz2 d0).2.1.toNat).length) ((c0 - (((nz1 d0).2.1 - (0 : Int)).toNat)) - (((nz2 d0).2.1 - (nz1 d0).2.1).toNat)), Value.bool ((nz2 d0).2.2)].toArray 74 (0, 0))), (102, mone g1 (.cells [Value.int .i64 (0), Value.int .i64 (0), Value.int .u8 (0), Value.int .i64 (0), Value.slice none (0) (0), Value.int .i64 (0), Value.int .i64 (0), Value.slice none (0) (0)].toArray 26 (0, 0))), (0, wm W)] (by kernel_rfl) ?_
    refine VO.k8 0 2 3 4 5 17 18 50 ?_
    refine VC.cond rfl (fun hc61 => ?_) (fun hc61 => ?_)
    · -- FT
      refine VC.rs ?_
      refine VO.mv ?_
      refine VO.call 104 rfl fnOk50 rfl rfl (fun W hW => lNum_ok W (B_ := d0) (at_ := (nz2 d0).2.1) (d0 := (d0.drop (nz2 d0).2.1.toNat, (nz2 d0).2.2)) (hW.at (i := 104) rfl) (Rd.mono hd16 (hW.out (i := 104) (j := 0) rfl rfl)) 1048576 bdk (by rfl) (by first | assumption | exact ⟨by omega, by omega⟩ | exact ⟨by (simp; done), by (simp; done)⟩)) (fun v62 m62 hv62 => ?_)
      try dsimp only at hv62
      obtain ⟨rfl, rfl⟩ := hv62
      have hfa63 := (nz3_ok (d0 := d0) (by first | assumption | exact ⟨by omega, by omega⟩ | exact ⟨by (simp; done), by (simp; done)⟩)).1
      try dsimp only at hfa63
      have hfa64 := (nz3_ok (d0 := d0) (by first | assumption | exact ⟨by omega, by omega⟩ | exact ⟨by (simp; done), by (simp; done)⟩)).1.1
      try dsimp only at hfa64
      have hfa65 := (nz3_ok (d0 := d0) (by first | assumption | exact ⟨by omega, by omega⟩ | exact ⟨by (simp; done), by (simp; done)⟩)).1.2
      try dsimp only at hfa65
      have hfa66 := (nz3_ok (d0 := d0) (by first | assumption | exact ⟨by omega, by omega⟩ | exact ⟨by (simp; done), by (simp; done)⟩)).2
      try dsimp only at hfa66
      obtain ⟨A67, hA67, hs67⟩ := hd16.drop 1 (((nz3 d0).2.1 - (nz2 d0).2.1).toNat) rfl bd
      simp only [dropV, hA67]
      have hl67 : ((d0.drop (nz2 d0).2.1.toNat).length) - (((nz3 d0).2.1 - (nz2 d0).2.1).toNat) = (d0.drop (nz3 d0).2.1.toNat).length := by simp only [List.length_drop] at *; omega
      have hd67 : Rd (.sl .byte) (wm W) [Value.slice A67 (d0.drop (nz3 d0).2.1.toNat).length (((c0 - (((nz1 d0).2.1 - (0 : Int)).toNat)) - (((nz2 d0).2.1 - (nz1 d0).2.1).toNat)) - (((nz3 d0).2.1 - (nz2 d0).2.1).toNat))] (d0.drop (nz3 d0).2.1.toNat) := Rd.relen (by have h_ : Rd (.sl .byte) (wm W) [Value.slice A67 ((d0.drop (nz2 d0).2.1.toNat).length - (((nz3 d0).2.1 - (nz2 d0).2.1).toNat)) (((c0 - (((nz1 d0).2.1 - (0 : Int)).toNat)) - (((nz2 d0).2.1 - (nz1 d0).2.1).toNat)) - (((nz3 d0).2.1 - (nz2 d0).2.1).toNat))] ((d0.drop ((nz2 d0).2.1).toNat).drop (((nz3 d0).2.1 - (nz2 d0).2.1).toNat)) := hs67; rw [drop_at (by omega) (by omega)] at h_; exact h_) rfl
      rw [hl67]
      refine VO.mv ?_
      refine VO.call 104 rfl fnOk50 rfl rfl (fun W hW => lNum_ok W (B_ := d0) (at_ := (nz3 d0).2.1) (d0 := (d0.drop (nz3 d0).2.1.toNat, (nz3 d0).2.2)) (hW.at (i := 104) rfl) (Rd.mono hd67 (hW.out (i := 104) (j := 0) rfl rfl)) 1048576 bdk (by rfl) (by first | assumption | exact ⟨by omega, by omega⟩ | exact ⟨by (simp; done), by (simp; done)⟩)) (fun v68 m68 hv68 => ?_)
      try dsimp only at hv68
      obtain ⟨rfl, rfl⟩ := hv68
      have hfa69 := (nz7_ok (d0 := d0) (by first | assumption | exact ⟨by omega, by omega⟩ | exact ⟨by (simp; done), by (simp; done)⟩)).1
      try dsimp only at hfa69
      have hfa70 := (nz7_ok (d0 := d0) (by first | assumption | exact ⟨by omega, by omega⟩ | exact ⟨by (simp; done), by (simp; done)⟩)).1.1
      try dsimp only at hfa70
      have hfa71 := (nz7_ok (d0 := d0) (by first | assumption | exact ⟨by omega, by omega⟩ | exact ⟨by (simp; done), by (simp; done)⟩)).1.2
      try dsimp only at hfa71
      have hfa72 := (nz7_ok (d0 := d0) (by first | assumption | exact ⟨by omega, by omega⟩ | exact ⟨by (simp; done), by (simp; done)⟩)).2
      try dsimp only at hfa72
      obtain ⟨A73, hA73, hs73⟩ := hd67.drop 1 (((nz7 d0).2.1 - (nz3 d0).2.1).toNat) rfl bd
      simp only [dropV, hA73]
      have hl73 : ((d0.drop (nz3 d0).2.1.toNat).length) - (((nz7 d0).2.1 - (nz3 d0).2.1).toNat) = (d0.drop (nz7 d0).2.1.toNat).length := by simp only [List.length_drop] at *; omega
      have hd73 : Rd (.sl .byte) (wm W) [Value.slice A73 (d0.drop (nz7 d0).2.1.toNat).length ((((c0 - (((nz1 d0).2.1 - (0 : Int)).toNat)) - (((nz2 d0).2.1 - (nz1 d0).2.1).toNat)) - (((nz3 d0).2.1 - (nz2 d0).2.1).toNat)) - (((nz7 d0).2.1 - (nz3 d0).2.1).toNat))] (d0.drop (nz7 d0).2.1.toNat) := Rd.relen (by have h_ : Rd (.sl .byte) (wm W) [Value.slice A73 ((d0.drop (nz3 d0).2.1.toNat).length - (((nz7 d0).2.1 - (nz3 d0).2.1).toNat)) ((((c0 - (((nz1 d0).2.1 - (0 : Int)).toNat)) - (((nz2 d0).2.1 - (nz1 d0).2.1).toNat)) - (((nz3 d0).2.1 - (nz2 d0).2.1).toNat)) - (((nz7 d0).2.1 - (nz3 d0).2.1).toNat))] ((d0.drop ((nz3 d0).2.1).toNat).drop (((nz7 d0).2.1 - (nz3 d0).2.1).toNat)) := hs73; rw [drop_at (by omega) (by omega)] at h_; exact h_) rfl
      rw [hl73]
      refine VO.y rfl (.fa rfl tst26 rfl) ?_
      refine VO.store (k := 1) (c' := [Value.int .i64 ((nz1 d0).1), Value.int .i64 ((nz2 d0).1), Value.int .u8 (0), Value.int .i64 (0), Value.slice none (0) (0), Value.int .i64 ((nz3 d0).1), Value.int .i64 (0), Value.slice none (0) (0)]) 118 rfl rfl (.inr ⟨tk3, rfl⟩) rfl rfl rfl rfl rfl ?_
      refine VO.y rfl (.fa rfl tst26 rfl) ?_
      refine VO.store (k := 1) (c' := [Value.int .i64 ((nz1 d0).1), Value.int .i64 ((nz2 d0).1), Value.int .u8 (0), Value.int .i64 (0), Value.slice none (0) (0), Value.int .i64 ((nz3 d0).1), Value.int .i64 ((nz7 d0).1), Value.slice none (0) (0)]) 118 rfl rfl (.inr ⟨tk3, rfl⟩) rfl rfl rfl rfl rfl ?_
      refine VO.k8 0 2 3 4 5 17 18 50 ?_
      refine VC.rs ?_
      refine VO.mv ?_
      refine VO.call 104 rfl fnOk50 rfl rfl (fun W hW => lNum_ok W (B_ := d0) (at_ := (nz7 d0).2.1) (d0 := (d0.drop (nz7 d0).2.1.toNat, (nz7 d0).2.2)) (hW.at (i := 104) rfl) (Rd.mono hd73 (hW.out (i := 104) (j := 0) rfl rfl)) 4 bdk (by rfl) (by first | assumption | exact ⟨by omega, by omega⟩ | exact ⟨by (simp; done), by (simp; done)⟩)) (fun v74 m74 hv74 => ?_)
      try dsimp only at hv74
      obtain ⟨rfl, rfl⟩ := hv74
      have hfa75 := (nz8_ok (d0 := d0) (by first | assumption | exact ⟨by omega, by omega⟩ | exact ⟨by (simp; done), by (simp; done)⟩)).1
      try dsimp only at hfa75
      have hfa76 := (nz8_ok (d0 := d0) (by first | assumption | exact ⟨by omega, by omega⟩ | exact ⟨by (simp; done), by (simp; done)⟩)).1.1
      try dsimp only at hfa76
      have hfa77 := (nz8_ok (d0 := d0) (by first | assumption | exact ⟨by omega, by omega⟩ | exact ⟨by (simp; done), by (simp; done)⟩)).1.2
      try dsimp only at hfa77
      have hfa78 := (nz8_ok (d0 := d0) (by first | assumption | exact ⟨by omega, by omega⟩ | exact ⟨by (simp; done), by (simp; done)⟩)).2
      try dsimp only at hfa78
      obtain ⟨A79, hA79, hs79⟩ := hd73.drop 1 (((nz8 d0).2.1 - (nz7 d0).2.1).toNat) rfl bd
      simp only [dropV, hA79]
      have hl79 : ((d0.drop (nz7 d0).2.1.toNat).length) - (((nz8 d0).2.1 - (nz7 d0).2.1).toNat) = (d0.drop (nz8 d0).2.1.toNat).length := by simp only [List.length_drop] at *; omega
      have hd79 : Rd (.sl .byte) (wm W) [Value.slice A79 (d0.drop (nz8 d0).2.1.toNat).length (((((c0 - (((nz1 d0).2.1 - (0 : Int)).toNat)) - (((nz2 d0).2.1 - (nz1 d0).2.1).toNat)) - (((nz3 d0).2.1 - (nz2 d0).2.1).toNat)) - (((nz7 d0).2.1 - (nz3 d0).2.1).toNat)) - (((nz8 d0).2.1 - (nz7 d0).2.1).toNat))] (d0.drop (nz8 d0).2.1.toNat) := Rd.relen (by have h_ : Rd (.sl .byte) (wm W) [Value.slice A79 ((d0.drop (nz7 d0).2.1.toNat).length - (((nz8 d0).2.1 - (nz7 d0).2.1).toNat)) (((((c0 - (((nz1 d0).2.1 - (0 : Int)).toNat)) - (((nz2 d0).2.1 - (nz1 d0).2.1).toNat)) - (((nz3 d0).2.1 - (nz2 d0).2.1).toNat)) - (((nz7 d0).2.1 - (nz3 d0).2.1).toNat)) - (((nz8 d0).2.1 - (nz7 d0).2.1).toNat))] ((d0.drop ((nz7 d0).2.1).toNat).drop (((nz8 d0).2.1 - (nz7 d0).2.1).toNat)) := hs79; rw [drop_at (by omega) (by omega)] at h_; exact h_) rfl
      rw [hl79]
      refine VO.as ?_
      refine VO.k9 0 2 3 4 5 7 17 18 50 ?_
      refine VC.block ?_
      refine VC.inv ((180, mnil) :: _) (fun _ h => h.nilc 180) ?_
      refine VC.loop (G := Int × (List DCommit) × (Option Addr) × Nat × Mem × (Option Addr) × Nat × Bool × Int) (fun g => [(7, Value.int .i64 ((g.1))), (0, Value.slice A0 (d0.length) (c0)), (2, Value.pointer (some ⟨g1, 0, none⟩)), (3, Value.int .i64 (0)), (4, Value.pointer (some ⟨g3, 0, none⟩)), (5, Value.pointer (some ⟨g17, 0, none⟩)), (17, Value.int .i64 ((nz1 d0).1)), (18, Value.bool (decide (((nz1 d0).1) = 1))), (50, Value.bool (decide (((nz1 d0).1) = 2)))]) (fun g => [(180, (g.2.2.2.2.1)), (104, mone g3 (.cells [Value.slice (g.2.2.2.2.2.1) ((d0.drop (g.2.2.2.2.2.2.2.2).toNat).length) ((g.2.2.2.2.2.2.1)), Value.bool (g.2.2.2.2.2.2.2.1)].toArray 74 (0, 0))), (118, mone g17 (.cells [Value.int .i64 ((nz1 d0).1), Value.int .i64 ((nz2 d0).1), Value.int .u8 (0), Value.int .i64 (0), Value.slice none (0) (0), Value.int .i64 ((nz3 d0).1), Value.int .i64 ((nz7 d0).1), Value.slice (g.2.2.1) ((g.2.1).length) ((g.2.2.2.1))].toArray 26 (0, 0))), (102, mone g1 (.cells [Value.int .i64 (0), Value.int .i64 (0), Value.int .u8 (0), Value.int .i64 (0), Value.slice none (0) (0), Value.int .i64 (0), Value.int .i64 (0), Value.slice none (0) (0)].toArray 26 (0, 0))), (0, wm W)]) (fun g => (pComms (lComm d0) (nz8 d0).1.toNat (nz8 d0).2 = ((g.2.1) ++ (pComms (lComm d0) (g.1).toNat ((g.2.2.2.2.2.2.2.2), (g.2.2.2.2.2.2.2.1))).1, (pComms (lComm d0) (g.1).toNat ((g.2.2.2.2.2.2.2.2), (g.2.2.2.2.2.2.2.1))).2)) ∧ ((g.1) ≤ 4) ∧ ((g.2.1).length + (g.1).toNat ≤ 4) ∧ (rOk d0 ((g.2.2.2.2.2.2.2.2), (g.2.2.2.2.2.2.2.1))) ∧ (Ow (.sl TCommit) (g.2.2.2.2.1) [.slice (g.2.2.1) (g.2.1).length (g.2.2.2.1)] (g.2.1)) ∧ (Rd (.sl .byte) (wm W) [.slice (g.2.2.2.2.2.1) (d0.drop (g.2.2.2.2.2.2.2.2).toNat).length (g.2.2.2.2.2.2.1)] (d0.drop (g.2.2.2.2.2.2.2.2).toNat))) (fun g => (g.1).toNat) ((nz8 d0).1, [], none, 0, mnil, A79, ((((c0 - (((nz1 d0).2.1 - (0 : Int)).toNat)) - (((nz2 d0).2.1 - (nz1 d0).2.1).toNat)) - (((nz3 d0).2.1 - (nz2 d0).2.1).toNat)) - (((nz7 d0).2.1 - (nz3 d0).2.1).toNat)) - (((nz8 d0).2.1 - (nz7 d0).2.1).toNat), (nz8 d0).2.2, (nz8 d0).2.1) (⟨by rfl, by omega, by (simp; omega), by first | assumption | exact ⟨by omega, by (dsimp only; omega)⟩, (Ow.nil TCommit mnil), hd79⟩) ⟨⟨rfl, rfl, rfl, rfl, rfl, rfl, rfl, rfl, rfl, trivial⟩, fun _ h => h.sub [180, 104, 118, 102, 0]⟩ ?_
      rintro ⟨n, cs, cs_A, cs_c, cs_m, bs_A, bs_c, bad, at_x⟩ ⟨hp, hn, hlen, hok, h_cs, h_bs⟩
      replace hp : pComms (lComm d0) (nz8 d0).1.toNat (nz8 d0).2 = (cs ++ (pComms (lComm d0) n.toNat (at_x, bad)).1, (pComms (lComm d0) n.toNat (at_x, bad)).2) := hp
      replace hn : n ≤ 4 := hn
      replace hlen : cs.length + n.toNat ≤ 4 := hlen
      replace hok : rOk d0 (at_x, bad) := hok
      replace h_cs : Ow (.sl TCommit) cs_m [.slice cs_A cs.length cs_c] cs := h_cs
      replace h_bs : Rd (.sl .byte) (wm W) [.slice bs_A (d0.drop at_x.toNat).length bs_c] (d0.drop at_x.toNat) := h_bs
      show VC _ _ _ _ _ [(7, Value.int .i64 (n)), (0, Value.slice A0 (d0.length) (c0)), (2, Value.pointer (some ⟨g1, 0, none⟩)), (3, Value.int .i64 (0)), (4, Value.pointer (some ⟨g3, 0, none⟩)), (5, Value.pointer (some ⟨g17, 0, none⟩)), (17, Value.int .i64 ((nz1 d0).1)), (18, Value.bool (decide (((nz1 d0).1) = 1))), (50, Value.bool (decide (((nz1 d0).1) = 2)))] [(180, cs_m), (104, mone g3 (.cells [Value.slice bs_A ((d0.drop at_x.toNat).length) (bs_c), Value.bool bad].toArray 74 (0, 0))), (118, mone g17 (.cells [Value.int .i64 ((nz1 d0).1), Value.int .i64 ((nz2 d0).1), Value.int .u8 (0), Value.int .i64 (0), Value.slice none (0) (0), Value.int .i64 ((nz3 d0).1), Value.int .i64 ((nz7 d0).1), Value.slice cs_A (cs.length) (cs_c)].toArray 26 (0, 0))), (102, mone g1 (.cells [Value.int .i64 (0), Value.int .i64 (0), Value.int .u8 (0), Value.int .i64 (0), Value.slice none (0) (0), Value.int .i64 (0), Value.int .i64 (0), Value.slice none (0) (0)].toArray 26 (0, 0))), (0, wm W)]
      have l_cs : cs.length ≤ cs_c := by obtain ⟨_, _, he, hl, _⟩ := h_cs.slice; simp only [Value.slice.injEq] at he; omega
      have k_cs : cs_c ≤ 9223372036854775807 := by obtain ⟨_, _, he, _, hl⟩ := h_cs.slice; simp only [Value.slice.injEq, maxLen] at he hl; omega
      have l_bs := Rd.room h_bs
      obtain ⟨hoka, hokb⟩ := (show 0 ≤ at_x ∧ at_x ≤ d0.length from hok)
      refine VC.seq ?_
      refine VC.rs ?_
      refine VO.mv ?_
      refine VO.y rfl (.gtr rfl rfl) ?_
      refine VO.mv ?_
      refine VO.dec (t := 62) rfl (fun hc81 => ?_) (fun hc81 => ?_)
      · -- FTT
        refine VO.gy rfl ⟨_, rfl, rfl⟩ (.mv rfl) ?_
        refine VO.gy rfl ⟨_, rfl, rfl⟩ (.nilp rfl) ?_
        refine VO.gy rfl ⟨_, rfl, rfl⟩ (.fa rfl tst74 rfl) ?_
        refine VO.gy rfl ⟨_, rfl, rfl⟩ (.ld1 104 rfl tk4 rfl (cellsAt_one rfl rfl)) ?_
        refine VO.gy rfl ⟨_, rfl, rfl⟩ (.not rfl) ?_
        refine VO.y rfl (.pT rfl rfl) ?_
        refine VO.keep [180, 104, 118, 102, 0] [(180, cs_m), (104, mone g3 (.cells [Value.slice bs_A ((d0.drop at_x.toNat).length) (bs_c), Value.bool bad].toArray 74 (0, 0))), (118, mone g17 (.cells [Value.int .i64 ((nz1 d0).1), Value.int .i64 ((nz2 d0).1), Value.int .u8 (0), Value.int .i64 (0), Value.slice none (0) (0), Value.int .i64 ((nz3 d0).1), Value.int .i64 ((nz7 d0).1), Value.slice cs_A (cs.length) (cs_c)].toArray 26 (0, 0))), (102, mone g1 (.cells [Value.int .i64 (0), Value.int .i64 (0), Value.int .u8 (0), Value.int .i64 (0), Value.slice none (0) (0), Value.int .i64 (0), Value.int .i64 (0), Value.slice none (0) (0)].toArray 26 (0, 0))), (0, wm W)] (by kernel_rfl) ?_
        refine VO.k10 0 2 3 4 5 7 17 18 50 68 ?_
        refine VC.condBN rfl (fun hc82 => ?_) (fun hc82 => ?_)
        · -- FTTT
          refine VC.skip ?_
          refine outN ?_
          refine VC.seq ?_
          refine VC.block ?_
          refine VC.regD _ 5 [(0, true), (1, true), (2, true), (3, false), (4, false)] follows (by kernel_rfl) (fun _ h => h.sub [180, 118, 102, 0]) ?_
          refine VD.y rfl rfl (.inl rfl) (.fa rfl tst26 rfl) ?_
          refine VD.y rfl rfl (.inl rfl) (.ld1 118 rfl tk24 rfl (cellsAt_one rfl rfl)) ?_
          refine VD.y rfl rfl (.inl rfl) (.mv rfl) ?_
          refine VD.call 104 rfl rfl (.inl rfl) fnOk51 rfl rfl (fun _ _ h => h.sub [180, 118, 102, 0]) (fun W hW => lComm_ok W (B_ := d0) (at_ := at_x) (d0 := (d0.drop at_x.toNat, bad)) (hW.at (i := 104) rfl) (Rd.mono h_bs (hW.out (i := 104) (j := 0) rfl rfl)) (by rfl) (by first | assumption | exact ⟨by omega, by omega⟩ | exact ⟨by (simp; done), by (simp; done)⟩) bd) (fun v83 m83 hv83 => ?_)
          try dsimp only at hv83
          obtain ⟨s83_0, p83_0, rfl, hS83, f83_0⟩ := hv83
          refine VD.inv _ (fun _ h => h.parts (i := 104) rfl hS83 [184, 185]) ?_
          have hfa86 := (lComm_ok0 (B := d0) (s := (at_x, bad)) (by first | assumption | exact ⟨by omega, by omega⟩ | exact ⟨by (simp; done), by (simp; done)⟩) (by omega)).1.1
          try dsimp only at hfa86
          have hfa87 := (lComm_ok0 (B := d0) (s := (at_x, bad)) (by first | assumption | exact ⟨by omega, by omega⟩ | exact ⟨by (simp; done), by (simp; done)⟩) (by omega)).1.2
          try dsimp only at hfa87
          have hfa88 := (lComm_ok0 (B := d0) (s := (at_x, bad)) (by first | assumption | exact ⟨by omega, by omega⟩ | exact ⟨by (simp; done), by (simp; done)⟩) (by omega)).2.1
          try dsimp only at hfa88
          have hfa89 := (lComm_ok0 (B := d0) (s := (at_x, bad)) (by first | assumption | exact ⟨by omega, by omega⟩ | exact ⟨by (simp; done), by (simp; done)⟩) (by omega)).2.2
          try dsimp only at hfa89
          obtain ⟨A90, hA90, hs90⟩ := h_bs.drop 1 (((rNum d0 ((d0.length : Int) - at_x) (at_x, bad)).2.1 - at_x).toNat) rfl bd
          obtain ⟨A91, hA91, hs91⟩ := hs90.drop 1 (((lComm d0 (at_x, bad)).2.1 - (rNum d0 ((d0.length : Int) - at_x) (at_x, bad)).2.1).toNat) rfl bd
          simp only [dropV, hA90, hA91]
          have hl91 : (((d0.drop at_x.toNat).length) - (((rNum d0 ((d0.length : Int) - at_x) (at_x, bad)).2.1 - at_x).toNat)) - (((lComm d0 (at_x, bad)).2.1 - (rNum d0 ((d0.length : Int) - at_x) (at_x, bad)).2.1).toNat) = (d0.drop (lComm d0 (at_x, bad)).2.1.toNat).length := by simp only [List.length_drop] at *; omega
          have hd91 : Rd (.sl .byte) (wm W) [Value.slice A91 (d0.drop (lComm d0 (at_x, bad)).2.1.toNat).length ((bs_c - (((rNum d0 ((d0.length : Int) - at_x) (at_x, bad)).2.1 - at_x).toNat)) - (((lComm d0 (at_x, bad)).2.1 - (rNum d0 ((d0.length : Int) - at_x) (at_x, bad)).2.1).toNat))] (d0.drop (lComm d0 (at_x, bad)).2.1.toNat) := Rd.relen (by have h_ : Rd (.sl .byte) (wm W) [Value.slice A91 (((d0.drop at_x.toNat).drop (((rNum d0 ((d0.length : Int) - at_x) (at_x, bad)).2.1 - at_x).toNat)).length - (((lComm d0 (at_x, bad)).2.1 - (rNum d0 ((d0.length : Int) - at_x) (at_x, bad)).2.1).toNat)) ((bs_c - (((rNum d0 ((d0.length : Int) - at_x) (at_x, bad)).2.1 - at_x).toNat)) - (((lComm d0 (at_x, bad)).2.1 - (rNum d0 ((d0.length : Int) - at_x) (at_x, bad)).2.1).toNat))] (((d0.drop at_x.toNat).drop (((rNum d0 ((d0.length : Int) - at_x) (at_x, bad)).2.1 - at_x).toNat)).drop (((lComm d0 (at_x, bad)).2.1 - (rNum d0 ((d0.length : Int) - at_x) (at_x, bad)).2.1).toNat)) := hs91; rw [drop_at (by omega) (by omega), drop_at (by omega) (by omega)] at h_; exact h_) rfl
          rw [hl91]
          obtain ⟨q83_0_A2, q83_0_c2, q83_0_n2, rfl, q83_0_S, q83_0_0, q83_0_1, q83_0_2⟩ := openO_Commit (x0 := ((lComm d0 (at_x, bad)).1).1) (x1 := ((lComm d0 (at_x, bad)).1).2.1) (x2 := ((lComm d0 (at_x, bad)).1).2.2) f83_0
          simp only [inK] at q83_0_0
          simp only [inK] at q83_0_1
          have q83_0_r2 := Rd.room (q83_0_2.rd (mle_refl _))
          refine VD.inv _ (fun _ h => h.parts (i := 184) rfl q83_0_S [192]) ?_
          refine VD.bsl (cs := [Value.int .i64 (((lComm d0 (at_x, bad)).1).1), Value.int .i64 (((lComm d0 (at_x, bad)).1).2.1), Value.slice q83_0_A2 ((((lComm d0 (at_x, bad)).1).2.2).length) (q83_0_c2)]) 194 rfl rfl rfl tsl24 tz43 rfl rfl (fun _ h => h.sub [180, 118, 102, 0]) (fun g93 => ?_)
          refine VD.nil rfl ?_ rfl
          refine VO.appO (e := TCommit) 180 192 194 rfl rfl rfl tsl24 tz43 rfl rfl rfl rfl h_cs (show Ow TCommit _ _ ((lComm d0 (at_x, bad)).1) from (mkO_Commit (((lComm d0 (at_x, bad)).1).1) (((lComm d0 (at_x, bad)).1).2.1) (((lComm d0 (at_x, bad)).1).2.2) (Seps.one (mle_refl _)) bdk bdk (OwnL.ow (Ow.ownl q83_0_2 rfl mnil) rfl))) Try.underlying24 (cellsAt_one rfl rfl) bdm bd (by decide) (fun v95 m95 ho95 => ?_)
          obtain ⟨A95, c95, rfl, l95, k95⟩ := ho95.slice
          simp only [maxLen] at k95
          refine VO.y rfl (.fa rfl tst26 rfl) ?_
          refine VO.store (k := 1) (c' := [Value.int .i64 ((nz1 d0).1), Value.int .i64 ((nz2 d0).1), Value.int .u8 (0), Value.int .i64 (0), Value.slice none (0) (0), Value.int .i64 ((nz3 d0).1), Value.int .i64 ((nz7 d0).1), Value.slice A95 ((cs ++ [((lComm d0 (at_x, bad)).1)]).length) (c95)]) 118 rfl rfl (.inr ⟨tk24, rfl⟩) rfl rfl rfl rfl rfl ?_
          refine VO.k10 0 2 3 4 5 7 17 18 50 68 ?_
          refine outBN ?_
          refine outN ?_
          refine VC.reg ?_
          refine VO.mv ?_
          refine VO.y rfl (.sub rfl rfl rfl ⟨bd, bd⟩) ?_
          refine VO.as ?_
          refine VO.k10 0 2 3 4 5 7 17 18 50 68 ?_
          exact outN ⟨⟨n - 1, cs ++ [((lComm d0 (at_x, bad)).1)], A95, c95, m95, A91, (bs_c - (((rNum d0 ((d0.length : Int) - at_x) (at_x, bad)).2.1 - at_x).toNat)) - (((lComm d0 (at_x, bad)).2.1 - (rNum d0 ((d0.length : Int) - at_x) (at_x, bad)).2.1).toNat), (lComm d0 (at_x, bad)).2.2, (lComm d0 (at_x, bad)).2.1⟩, ⟨by exact comms_step hp (by omega) (by assumption), by omega, by (simp only [List.length_append, List.length_cons, List.length_nil]; omega), by first | assumption | exact ⟨by omega, by (dsimp only; omega)⟩, ho95, hd91⟩, bd, ⟨⟨rfl, rfl, rfl, rfl, rfl, rfl, rfl, rfl, rfl, trivial⟩, fun _ h => Inv.sub (Inv.num h 185 104 rfl) [180, 104, 118, 102, 0]⟩⟩
        · -- FTTF
          refine VC.exit ?_
          refine outE ?_
          refine outE ?_
          refine outBB ?_
          refine outBN ?_
          refine outN ?_
          refine VC.seq ?_
          refine VC.rs ?_
          refine VO.mv ?_
          refine VO.y rfl (.nilp rfl) ?_
          refine VO.y rfl (.fa rfl tst74 rfl) ?_
          refine VO.y rfl (.ld1 104 rfl tk4 rfl (cellsAt_one rfl rfl)) ?_
          refine VO.mv ?_
          refine VO.known (t := 87) true rfl hc82 ?_
          refine VO.gN ?_
          refine VO.gN ?_
          refine VO.gN ?_
          refine VO.gN ?_
          refine VO.gN ?_
          refine VO.gN ?_
          refine VO.y rfl (.pT rfl rfl) ?_
          refine VO.mv ?_
          refine VO.gN ?_
          refine VO.gN ?_
          refine VO.gN ?_
          refine VO.y rfl (.pT rfl rfl) ?_
          refine VO.k11 0 2 3 4 5 7 17 18 50 68 99 ?_
          refine VC.condT rfl ?_
          refine VC.rs ?_
          refine VO.y rfl (.bst (cs := [Value.int .i64 (0), Value.int .i64 (0), Value.int .u8 (0), Value.int .i64 (0), Value.slice none (0) (0), Value.int .i64 (0), Value.int .i64 (0), Value.slice none (0) (0)]) rfl tst26 tz26 rfl) ?_
          refine VO.store (k := 8) (c' := [Value.int .i64 (0), Value.int .i64 (0), Value.int .u8 (0), Value.int .i64 (0), Value.slice none (0) (0), Value.int .i64 (0), Value.int .i64 (0), Value.slice none (0) (0)]) 102 rfl rfl (.inl tk26) rfl rfl rfl rfl rfl ?_
          refine VO.as ?_
          refine VO.k11 0 2 3 4 5 7 17 18 50 68 99 ?_
          refine VC.ret ?_
          refine outR ?_
          refine ⟨_, _, res_run (rs := [.cell 2 26, .tmp 3]) rfl (.agg 102 rfl tk26 rfl ⟨_, _, _, mone_self _ _, Nat.le_of_ble_eq_true rfl, rfl⟩ (.tmp rfl .nil)), fun W_ hI => out_of (l := []) hI [] rfl rfl (mle_refl _) (fun hS_ => ?_)⟩
          dsimp only [packV]
          have he0 : ((lDec d0).1 : Ty.Den TMessage) = (0, 0, 0, 0, [], 0, 0, []) := by first | rfl | (exact fin0_lDec_ok)
          refine ⟨[Value.int .i64 (0), Value.int .i64 (0), Value.int .u8 (0), Value.int .i64 (0), Value.slice none (0) (0), Value.int .i64 (0), Value.int .i64 (0), Value.slice none (0) (0)], ?_, ?_⟩
          rotate_left
          · rw [he0]; exact (mkO_Message 0 0 0 0 [] 0 0 [] (Seps.nilAt 1 (Seps.nilAt 0 hS_)) bdk bdk bdk bdk (Ow.nil _ _) bdk bdk (Ow.nil _ _))
          all_goals (first | rfl | (exact fin0_lDec_ok))
      · -- FTF
        refine VO.gN ?_
        refine VO.gN ?_
        refine VO.gN ?_
        refine VO.gN ?_
        refine VO.gN ?_
        refine VO.y rfl (.pF rfl rfl) ?_
        refine VO.keep [180, 104, 118, 102, 0] [(180, cs_m), (104, mone g3 (.cells [Value.slice bs_A ((d0.drop at_x.toNat).length) (bs_c), Value.bool bad].toArray 74 (0, 0))), (118, mone g17 (.cells [Value.int .i64 ((nz1 d0).1), Value.int .i64 ((nz2 d0).1), Value.int .u8 (0), Value.int .i64 (0), Value.slice none (0) (0), Value.int .i64 ((nz3 d0).1), Value.int .i64 ((nz7 d0).1), Value.slice cs_A (cs.length) (cs_c)].toArray 26 (0, 0))), (102, mone g1 (.cells [Value.int .i64 (0), Value.int .i64 (0), Value.int .u8 (0), Value.int .i64 (0), Value.slice none (0) (0), Value.int .i64 (0), Value.int .i64 (0), Value.slice none (0) (0)].toArray 26 (0, 0))), (0, wm W)] (by kernel_rfl) ?_
        refine VO.k10 0 2 3 4 5 7 17 18 50 68 ?_
        refine VC.condF rfl ?_
        refine VC.exit ?_
        refine outE ?_
        refine outE ?_
        refine outBB ?_
        refine outBN ?_
        refine outN ?_
        refine VC.seq ?_
        refine VC.rs ?_
        refine VO.mv ?_
        refine VO.y rfl (.nilp rfl) ?_
        refine VO.y rfl (.fa rfl tst74 rfl) ?_
        refine VO.y rfl (.ld1 104 rfl tk4 rfl (cellsAt_one rfl rfl)) ?_
        refine VO.mv ?_
        refine VO.decB (t := 87) rfl (fun hc96 => ?_) (fun hc96 => ?_)
        · -- FTFT
          refine VO.gN ?_
          refine VO.gN ?_
          refine VO.gN ?_
          refine VO.gN ?_
          refine VO.gN ?_
          refine VO.gN ?_
          refine VO.y rfl (.pT rfl rfl) ?_
          refine VO.mv ?_
          refine VO.gN ?_
          refine VO.gN ?_
          refine VO.gN ?_
          refine VO.y rfl (.pT rfl rfl) ?_
          refine VO.k11 0 2 3 4 5 7 17 18 50 68 99 ?_
          refine VC.condT rfl ?_
          refine VC.rs ?_
          refine VO.y rfl (.bst (cs := [Value.int .i64 (0), Value.int .i64 (0), Value.int .u8 (0), Value.int .i64 (0), Value.slice none (0) (0), Value.int .i64 (0), Value.int .i64 (0), Value.slice none (0) (0)]) rfl tst26 tz26 rfl) ?_
          refine VO.store (k := 8) (c' := [Value.int .i64 (0), Value.int .i64 (0), Value.int .u8 (0), Value.int .i64 (0), Value.slice none (0) (0), Value.int .i64 (0), Value.int .i64 (0), Value.slice none (0) (0)]) 102 rfl rfl (.inl tk26) rfl rfl rfl rfl rfl ?_
          refine VO.as ?_
          refine VO.k11 0 2 3 4 5 7 17 18 50 68 99 ?_
          refine VC.ret ?_
          refine outR ?_
          refine ⟨_, _, res_run (rs := [.cell 2 26, .tmp 3]) rfl (.agg 102 rfl tk26 rfl ⟨_, _, _, mone_self _ _, Nat.le_of_ble_eq_true rfl, rfl⟩ (.tmp rfl .nil)), fun W_ hI => out_of (l := []) hI [] rfl rfl (mle_refl _) (fun hS_ => ?_)⟩
          dsimp only [packV]
          have he0 : ((lDec d0).1 : Ty.Den TMessage) = (0, 0, 0, 0, [], 0, 0, []) := by first | rfl | (exact fin0_lDec_ok)
          refine ⟨[Value.int .i64 (0), Value.int .i64 (0), Value.int .u8 (0), Value.int .i64 (0), Value.slice none (0) (0), Value.int .i64 (0), Value.int .i64 (0), Value.slice none (0) (0)], ?_, ?_⟩
          rotate_left
          · rw [he0]; exact (mkO_Message 0 0 0 0 [] 0 0 [] (Seps.nilAt 1 (Seps.nilAt 0 hS_)) bdk bdk bdk bdk (Ow.nil _ _) bdk bdk (Ow.nil _ _))
          all_goals (first | rfl | (exact fin0_lDec_ok))
        · -- FTFF
          refine VO.gy rfl ⟨_, rfl, rfl⟩ (.mv rfl) ?_
          refine VO.gy rfl ⟨_, rfl, rfl⟩ (.nilp rfl) ?_
          refine VO.gy rfl ⟨_, rfl, rfl⟩ (.fa rfl tst74 rfl) ?_
          refine VO.gy rfl ⟨_, rfl, rfl⟩ (.ld1 104 rfl tk30 rfl (cellsAt_one rfl rfl)) ?_
          refine VO.gy rfl ⟨_, rfl, rfl⟩ (.lenS rfl tsl30) ?_
          refine VO.gy rfl ⟨_, rfl, rfl⟩ (.gtr rfl rfl) ?_
          refine VO.y rfl (.pF rfl rfl) ?_
          refine VO.mv ?_
          refine VO.dec (t := 95) rfl (fun hc97 => ?_) (fun hc97 => ?_)
          · -- FTFFT
            refine VO.gN ?_
            refine VO.gN ?_
            refine VO.gN ?_
            refine VO.y rfl (.pT rfl rfl) ?_
            refine VO.k11 0 2 3 4 5 7 17 18 50 68 99 ?_
            refine VC.condT rfl ?_
            refine VC.rs ?_
            refine VO.y rfl (.bst (cs := [Value.int .i64 (0), Value.int .i64 (0), Value.int .u8 (0), Value.int .i64 (0), Value.slice none (0) (0), Value.int .i64 (0), Value.int .i64 (0), Value.slice none (0) (0)]) rfl tst26 tz26 rfl) ?_
            refine VO.store (k := 8) (c' := [Value.int .i64 (0), Value.int .i64 (0), Value.int .u8 (0), Value.int .i64 (0), Value.slice none (0) (0), Value.int .i64 (0), Value.int .i64 (0), Value.slice none (0) (0)]) 102 rfl rfl (.inl tk26) rfl rfl rfl rfl rfl ?_
            refine VO.as ?_
            refine VO.k11 0 2 3 4 5 7 17 18 50 68 99 ?_
            refine VC.ret ?_
            refine outR ?_
            refine ⟨_, _, res_run (rs := [.cell 2 26, .tmp 3]) rfl (.agg 102 rfl tk26 rfl ⟨_, _, _, mone_self _ _, Nat.le_of_ble_eq_true rfl, rfl⟩ (.tmp rfl .nil)), fun W_ hI => out_of (l := []) hI [] rfl rfl (mle_refl _) (fun hS_ => ?_)⟩
            dsimp only [packV]
            have he0 : ((lDec d0).1 : Ty.Den TMessage) = (0, 0, 0, 0, [], 0, 0, []) := by first | rfl | (exact fin0_lDec_ok)
            refine ⟨[Value.int .i64 (0), Value.int .i64 (0), Value.int .u8 (0), Value.int .i64 (0), Value.slice none (0) (0), Value.int .i64 (0), Value.int .i64 (0), Value.slice none (0) (0)], ?_, ?_⟩
            rotate_left
            · rw [he0]; exact (mkO_Message 0 0 0 0 [] 0 0 [] (Seps.nilAt 1 (Seps.nilAt 0 hS_)) bdk bdk bdk bdk (Ow.nil _ _) bdk bdk (Ow.nil _ _))
            all_goals (first | rfl | (exact fin0_lDec_ok))
          · -- FTFFF
            refine VO.gy rfl ⟨_, rfl, rfl⟩ (.ldA 118 rfl tk26 rfl (cellsAt_one rfl rfl)) ?_
            refine VO.gcallN 198 rfl ⟨_, rfl, rfl⟩ fnOk13 rfl (fun W hW => lCheck_ok W (mk_Message (m := wm W) ((nz1 d0).1) ((nz2 d0).1) 0 0 [] ((nz3 d0).1) ((nz7 d0).1) cs bdk bdk bdk bdk (Rd.nil _ _ none 0 (Nat.zero_le _)) bdk bdk (Ow.rd h_cs (hW.at (i := 180) rfl)))) (fun v98 m98 hv98 => ?_)
            try dsimp only at hv98
            subst hv98
            have hfa99 := lCheck_range ((nz1 d0).1, (nz2 d0).1, 0, 0, [], (nz3 d0).1, (nz7 d0).1, cs)
            refine VO.gy rfl ⟨_, rfl, rfl⟩ (.neq rfl rfl) ?_
            refine VO.y rfl (.pF rfl rfl) ?_
            refine VO.k11 0 2 3 4 5 7 17 18 50 68 99 ?_
            refine VC.cond rfl (fun hc100 => ?_) (fun hc100 => ?_)
            · -- FTFFFT
              refine VC.rs ?_
              refine VO.y rfl (.bst (cs := [Value.int .i64 (0), Value.int .i64 (0), Value.int .u8 (0), Value.int .i64 (0), Value.slice none (0) (0), Value.int .i64 (0), Value.int .i64 (0), Value.slice none (0) (0)]) rfl tst26 tz26 rfl) ?_
              refine VO.store (k := 8) (c' := [Value.int .i64 (0), Value.int .i64 (0), Value.int .u8 (0), Value.int .i64 (0), Value.slice none (0) (0), Value.int .i64 (0), Value.int .i64 (0), Value.slice none (0) (0)]) 102 rfl rfl (.inl tk26) rfl rfl rfl rfl rfl ?_
              refine VO.as ?_
              refine VO.k11 0 2 3 4 5 7 17 18 50 68 99 ?_
              refine VC.ret ?_
              refine outR ?_
              refine ⟨_, _, res_run (rs := [.cell 2 26, .tmp 3]) rfl (.agg 102 rfl tk26 rfl ⟨_, _, _, mone_self _ _, Nat.le_of_ble_eq_true rfl, rfl⟩ (.tmp rfl .nil)), fun W_ hI => out_of (l := []) hI [] rfl rfl (mle_refl _) (fun hS_ => ?_)⟩
              dsimp only [packV]
              have he0 : ((lDec d0).1 : Ty.Den TMessage) = (0, 0, 0, 0, [], 0, 0, []) := by first | rfl | (exact fin0_lDec_ok)
              refine ⟨[Value.int .i64 (0), Value.int .i64 (0), Value.int .u8 (0), Value.int .i64 (0), Value.slice none (0) (0), Value.int .i64 (0), Value.int .i64 (0), Value.slice none (0) (0)], ?_, ?_⟩
              rotate_left
              · rw [he0]; exact (mkO_Message 0 0 0 0 [] 0 0 [] (Seps.nilAt 1 (Seps.nilAt 0 hS_)) bdk bdk bdk bdk (Ow.nil _ _) bdk bdk (Ow.nil _ _))
              all_goals (first | rfl | (exact fin0_lDec_ok))
            · -- FTFFFF
              refine VC.skip ?_
              refine outN ?_
              refine VC.rs ?_
              refine VO.y rfl (.ldA 118 rfl tk26 rfl (cellsAt_one rfl rfl)) ?_
              refine VO.store (k := 8) (c' := [Value.int .i64 ((nz1 d0).1), Value.int .i64 ((nz2 d0).1), Value.int .u8 (0), Value.int .i64 (0), Value.slice none (0) (0), Value.int .i64 ((nz3 d0).1), Value.int .i64 ((nz7 d0).1), Value.slice cs_A (cs.length) (cs_c)]) 102 rfl rfl (.inl tk26) rfl rfl rfl rfl rfl ?_
              refine VO.as ?_
              refine VO.k11 0 2 3 4 5 7 17 18 50 68 99 ?_
              refine VC.ret ?_
              refine ⟨_, _, res_run (rs := [.cell 2 26, .tmp 3]) rfl (.agg 102 rfl tk26 rfl ⟨_, _, _, mone_self _ _, Nat.le_of_ble_eq_true rfl, rfl⟩ (.tmp rfl .nil)), fun W_ hI => out_of (l := [cs_m]) hI [180] rfl rfl (mle_refl _) (fun hS_ => ?_)⟩
              dsimp only [packV]
              have he0 : ((lDec d0).1 : Ty.Den TMessage) = ((nz1 d0).1, (nz2 d0).1, 0, 0, [], (nz3 d0).1, (nz7 d0).1, cs) := by first | rfl | (exact fin0_lDec_ok)
              refine ⟨[Value.int .i64 ((nz1 d0).1), Value.int .i64 ((nz2 d0).1), Value.int .u8 (0), Value.int .i64 (0), Value.slice none (0) (0), Value.int .i64 ((nz3 d0).1), Value.int .i64 ((nz7 d0).1), Value.slice cs_A (cs.length) (cs_c)], ?_, ?_⟩
              rotate_left
              · rw [he0]; exact (mkO_Message ((nz1 d0).1) ((nz2 d0).1) 0 0 [] ((nz3 d0).1) ((nz7 d0).1) cs (Seps.nilAt 0 hS_) bdk bdk bdk bdk (Ow.nil _ _) bdk bdk h_cs)
              all_goals (first | rfl | (exact fin0_lDec_ok))
    · -- FF
      refine VC.rs ?_
      refine VO.y rfl (.eql rfl rfl) ?_
      refine VO.as ?_
      refine VO.k9 0 2 3 4 5 17 18 50 78 ?_
      refine VC.cond rfl (fun hc101 => ?_) (fun hc101 => ?_)
      · -- FFT
        refine VC.reg ?_
        refine VO.mv ?_
        refine VO.call 104 rfl fnOk50 rfl rfl (fun W hW => lNum_ok W (B_ := d0) (at_ := (nz2 d0).2.1) (d0 := (d0.drop (nz2 d0).2.1.toNat, (nz2 d0).2.2)) (hW.at (i := 104) rfl) (Rd.mono hd16 (hW.out (i := 104) (j := 0) rfl rfl)) 1048576 bdk (by rfl) (by first | assumption | exact ⟨by omega, by omega⟩ | exact ⟨by (simp; done), by (simp; done)⟩)) (fun v102 m102 hv102 => ?_)
        try dsimp only at hv102
        obtain ⟨rfl, rfl⟩ := hv102
        have hfa103 := (nz3_ok (d0 := d0) (by first | assumption | exact ⟨by omega, by omega⟩ | exact ⟨by (simp; done), by (simp; done)⟩)).1
        try dsimp only at hfa103
        have hfa104 := (nz3_ok (d0 := d0) (by first | assumption | exact ⟨by omega, by omega⟩ | exact ⟨by (simp; done), by (simp; done)⟩)).1.1
        try dsimp only at hfa104
        have hfa105 := (nz3_ok (d0 := d0) (by first | assumption | exact ⟨by omega, by omega⟩ | exact ⟨by (simp; done), by (simp; done)⟩)).1.2
        try dsimp only at hfa105
        have hfa106 := (nz3_ok (d0 := d0) (by first | assumption | exact ⟨by omega, by omega⟩ | exact ⟨by (simp; done), by (simp; done)⟩)).2
        try dsimp only at hfa106
        obtain ⟨A107, hA107, hs107⟩ := hd16.drop 1 (((nz3 d0).2.1 - (nz2 d0).2.1).toNat) rfl bd
        simp only [dropV, hA107]
        have hl107 : ((d0.drop (nz2 d0).2.1.toNat).length) - (((nz3 d0).2.1 - (nz2 d0).2.1).toNat) = (d0.drop (nz3 d0).2.1.toNat).length := by simp only [List.length_drop] at *; omega
        have hd107 : Rd (.sl .byte) (wm W) [Value.slice A107 (d0.drop (nz3 d0).2.1.toNat).length (((c0 - (((nz1 d0).2.1 - (0 : Int)).toNat)) - (((nz2 d0).2.1 - (nz1 d0).2.1).toNat)) - (((nz3 d0).2.1 - (nz2 d0).2.1).toNat))] (d0.drop (nz3 d0).2.1.toNat) := Rd.relen (by have h_ : Rd (.sl .byte) (wm W) [Value.slice A107 ((d0.drop (nz2 d0).2.1.toNat).length - (((nz3 d0).2.1 - (nz2 d0).2.1).toNat)) (((c0 - (((nz1 d0).2.1 - (0 : Int)).toNat)) - (((nz2 d0).2.1 - (nz1 d0).2.1).toNat)) - (((nz3 d0).2.1 - (nz2 d0).2.1).toNat))] ((d0.drop ((nz2 d0).2.1).toNat).drop (((nz3 d0).2.1 - (nz2 d0).2.1).toNat)) := hs107; rw [drop_at (by omega) (by omega)] at h_; exact h_) rfl
        rw [hl107]
        refine VO.y rfl (.fa rfl tst26 rfl) ?_
        refine VO.store (k := 1) (c' := [Value.int .i64 ((nz1 d0).1), Value.int .i64 ((nz2 d0).1), Value.int .u8 (0), Value.int .i64 ((nz3 d0).1), Value.slice none (0) (0), Value.int .i64 (0), Value.int .i64 (0), Value.slice none (0) (0)]) 118 rfl rfl (.inr ⟨tk3, rfl⟩) rfl rfl rfl rfl rfl ?_
        refine VO.k9 0 2 3 4 5 17 18 50 78 ?_
        refine outBN ?_
        refine outN ?_
        refine VC.seq ?_
        refine VC.rs ?_
        refine VO.mv ?_
        refine VO.y rfl (.nilp rfl) ?_
        refine VO.y rfl (.fa rfl tst74 rfl) ?_
        refine VO.y rfl (.ld1 104 rfl tk4 rfl (cellsAt_one rfl rfl)) ?_
        refine VO.mv ?_
        refine VO.decB (t := 87) rfl (fun hc108 => ?_) (fun hc108 => ?_)
        · -- FFTT
          refine VO.gN ?_
          refine VO.gN ?_
          refine VO.gN ?_
          refine VO.gN ?_
          refine VO.gN ?_
          refine VO.gN ?_
          refine VO.y rfl (.pT rfl rfl) ?_
          refine VO.mv ?_
          refine VO.gN ?_
          refine VO.gN ?_
          refine VO.gN ?_
          refine VO.y rfl (.pT rfl rfl) ?_
          refine VO.keep [104, 118, 102, 0] [(104, mone g3 (.cells [Value.slice A107 ((d0.drop (nz3 d0).2.1.toNat).length) (((c0 - (((nz1 d0).2.1 - (0 : Int)).toNat)) - (((nz2 d0).2.1 - (nz1 d0).2.1).toNat)) - (((nz3 d0).2.1 - (nz2 d0).2.1).toNat)), Value.bool ((nz3 d0).2.2)].toArray 74 (0, 0))), (118, mone g17 (.cells [Value.int .i64 ((nz1 d0).1), Value.int .i64 ((nz2 d0).1), Value.int .u8 (0), Value.int .i64 ((nz3 d0).1), Value.slice none (0) (0), Value.int .i64 (0), Value.int .i64 (0), Value.slice none (0) (0)].toArray 26 (0, 0))), (102, mone g1 (.cells [Value.int .i64 (0), Value.int .i64 (0), Value.int .u8 (0), Value.int .i64 (0), Value.slice none (0) (0), Value.int .i64 (0), Value.int .i64 (0), Value.slice none (0) (0)].toArray 26 (0, 0))), (0, wm W)] (by kernel_rfl) ?_
          refine VO.k10 0 2 3 4 5 17 18 50 78 99 ?_
          refine VC.condT rfl ?_
          refine VC.rs ?_
          refine VO.y rfl (.bst (cs := [Value.int .i64 (0), Value.int .i64 (0), Value.int .u8 (0), Value.int .i64 (0), Value.slice none (0) (0), Value.int .i64 (0), Value.int .i64 (0), Value.slice none (0) (0)]) rfl tst26 tz26 rfl) ?_
          refine VO.store (k := 8) (c' := [Value.int .i64 (0), Value.int .i64 (0), Value.int .u8 (0), Value.int .i64 (0), Value.slice none (0) (0), Value.int .i64 (0), Value.int .i64 (0), Value.slice none (0) (0)]) 102 rfl rfl (.inl tk26) rfl rfl rfl rfl rfl ?_
          refine VO.as ?_
          refine VO.k10 0 2 3 4 5 17 18 50 78 99 ?_
          refine VC.ret ?_
          refine outR ?_
          refine ⟨_, _, res_run (rs := [.cell 2 26, .tmp 3]) rfl (.agg 102 rfl tk26 rfl ⟨_, _, _, mone_self _ _, Nat.le_of_ble_eq_true rfl, rfl⟩ (.tmp rfl .nil)), fun W_ hI => out_of (l := []) hI [] rfl rfl (mle_refl _) (fun hS_ => ?_)⟩
          dsimp only [packV]
          have he0 : ((lDec d0).1 : Ty.Den TMessage) = (0, 0, 0, 0, [], 0, 0, []) := by first | rfl | (exact fin0_lDec_ok)
          refine ⟨[Value.int .i64 (0), Value.int .i64 (0), Value.int .u8 (0), Value.int .i64 (0), Value.slice none (0) (0), Value.int .i64 (0), Value.int .i64 (0), Value.slice none (0) (0)], ?_, ?_⟩
          rotate_left
          · rw [he0]; exact (mkO_Message 0 0 0 0 [] 0 0 [] (Seps.nilAt 1 (Seps.nilAt 0 hS_)) bdk bdk bdk bdk (Ow.nil _ _) bdk bdk (Ow.nil _ _))
          all_goals (first | rfl | (exact fin0_lDec_ok))
        · -- FFTF
          refine VO.gy rfl ⟨_, rfl, rfl⟩ (.mv rfl) ?_
          refine VO.gy rfl ⟨_, rfl, rfl⟩ (.nilp rfl) ?_
          refine VO.gy rfl ⟨_, rfl, rfl⟩ (.fa rfl tst74 rfl) ?_
          refine VO.gy rfl ⟨_, rfl, rfl⟩ (.ld1 104 rfl tk30 rfl (cellsAt_one rfl rfl)) ?_
          refine VO.gy rfl ⟨_, rfl, rfl⟩ (.lenS rfl tsl30) ?_
          refine VO.gy rfl ⟨_, rfl, rfl⟩ (.gtr rfl rfl) ?_
          refine VO.y rfl (.pF rfl rfl) ?_
          refine VO.mv ?_
          refine VO.dec (t := 95) rfl (fun hc109 => ?_) (fun hc109 => ?_)
          · -- FFTFT
            refine VO.gN ?_
            refine VO.gN ?_
            refine VO.gN ?_
            refine VO.y rfl (.pT rfl rfl) ?_
            refine VO.keep [104, 118, 102, 0] [(104, mone g3 (.cells [Value.slice A107 ((d0.drop (nz3 d0).2.1.toNat).length) (((c0 - (((nz1 d0).2.1 - (0 : Int)).toNat)) - (((nz2 d0).2.1 - (nz1 d0).2.1).toNat)) - (((nz3 d0).2.1 - (nz2 d0).2.1).toNat)), Value.bool ((nz3 d0).2.2)].toArray 74 (0, 0))), (118, mone g17 (.cells [Value.int .i64 ((nz1 d0).1), Value.int .i64 ((nz2 d0).1), Value.int .u8 (0), Value.int .i64 ((nz3 d0).1), Value.slice none (0) (0), Value.int .i64 (0), Value.int .i64 (0), Value.slice none (0) (0)].toArray 26 (0, 0))), (102, mone g1 (.cells [Value.int .i64 (0), Value.int .i64 (0), Value.int .u8 (0), Value.int .i64 (0), Value.slice none (0) (0), Value.int .i64 (0), Value.int .i64 (0), Value.slice none (0) (0)].toArray 26 (0, 0))), (0, wm W)] (by kernel_rfl) ?_
            refine VO.k10 0 2 3 4 5 17 18 50 78 99 ?_
            refine VC.condT rfl ?_
            refine VC.rs ?_
            refine VO.y rfl (.bst (cs := [Value.int .i64 (0), Value.int .i64 (0), Value.int .u8 (0), Value.int .i64 (0), Value.slice none (0) (0), Value.int .i64 (0), Value.int .i64 (0), Value.slice none (0) (0)]) rfl tst26 tz26 rfl) ?_
            refine VO.store (k := 8) (c' := [Value.int .i64 (0), Value.int .i64 (0), Value.int .u8 (0), Value.int .i64 (0), Value.slice none (0) (0), Value.int .i64 (0), Value.int .i64 (0), Value.slice none (0) (0)]) 102 rfl rfl (.inl tk26) rfl rfl rfl rfl rfl ?_
            refine VO.as ?_
            refine VO.k10 0 2 3 4 5 17 18 50 78 99 ?_
            refine VC.ret ?_
            refine outR ?_
            refine ⟨_, _, res_run (rs := [.cell 2 26, .tmp 3]) rfl (.agg 102 rfl tk26 rfl ⟨_, _, _, mone_self _ _, Nat.le_of_ble_eq_true rfl, rfl⟩ (.tmp rfl .nil)), fun W_ hI => out_of (l := []) hI [] rfl rfl (mle_refl _) (fun hS_ => ?_)⟩
            dsimp only [packV]
            have he0 : ((lDec d0).1 : Ty.Den TMessage) = (0, 0, 0, 0, [], 0, 0, []) := by first | rfl | (exact fin0_lDec_ok)
            refine ⟨[Value.int .i64 (0), Value.int .i64 (0), Value.int .u8 (0), Value.int .i64 (0), Value.slice none (0) (0), Value.int .i64 (0), Value.int .i64 (0), Value.slice none (0) (0)], ?_, ?_⟩
            rotate_left
            · rw [he0]; exact (mkO_Message 0 0 0 0 [] 0 0 [] (Seps.nilAt 1 (Seps.nilAt 0 hS_)) bdk bdk bdk bdk (Ow.nil _ _) bdk bdk (Ow.nil _ _))
            all_goals (first | rfl | (exact fin0_lDec_ok))
          · -- FFTFF
            refine VO.gy rfl ⟨_, rfl, rfl⟩ (.ldA 118 rfl tk26 rfl (cellsAt_one rfl rfl)) ?_
            refine VO.gcallN 210 rfl ⟨_, rfl, rfl⟩ fnOk13 rfl (fun W hW => lCheck_ok W (mk_Message (m := wm W) ((nz1 d0).1) ((nz2 d0).1) 0 ((nz3 d0).1) [] 0 0 [] bdk bdk bdk bdk (Rd.nil _ _ none 0 (Nat.zero_le _)) bdk bdk (Rd.nil _ _ none 0 (Nat.zero_le _)))) (fun v110 m110 hv110 => ?_)
            try dsimp only at hv110
            subst hv110
            have hfa111 := lCheck_range ((nz1 d0).1, (nz2 d0).1, 0, (nz3 d0).1, [], 0, 0, [])
            refine VO.gy rfl ⟨_, rfl, rfl⟩ (.neq rfl rfl) ?_
            refine VO.y rfl (.pF rfl rfl) ?_
            refine VO.keep [104, 118, 102, 0] [(104, mone g3 (.cells [Value.slice A107 ((d0.drop (nz3 d0).2.1.toNat).length) (((c0 - (((nz1 d0).2.1 - (0 : Int)).toNat)) - (((nz2 d0).2.1 - (nz1 d0).2.1).toNat)) - (((nz3 d0).2.1 - (nz2 d0).2.1).toNat)), Value.bool ((nz3 d0).2.2)].toArray 74 (0, 0))), (118, mone g17 (.cells [Value.int .i64 ((nz1 d0).1), Value.int .i64 ((nz2 d0).1), Value.int .u8 (0), Value.int .i64 ((nz3 d0).1), Value.slice none (0) (0), Value.int .i64 (0), Value.int .i64 (0), Value.slice none (0) (0)].toArray 26 (0, 0))), (102, mone g1 (.cells [Value.int .i64 (0), Value.int .i64 (0), Value.int .u8 (0), Value.int .i64 (0), Value.slice none (0) (0), Value.int .i64 (0), Value.int .i64 (0), Value.slice none (0) (0)].toArray 26 (0, 0))), (0, wm W)] (by kernel_rfl) ?_
            refine VO.k10 0 2 3 4 5 17 18 50 78 99 ?_
            refine VC.cond rfl (fun hc112 => ?_) (fun hc112 => ?_)
            · -- FFTFFT
              refine VC.rs ?_
              refine VO.y rfl (.bst (cs := [Value.int .i64 (0), Value.int .i64 (0), Value.int .u8 (0), Value.int .i64 (0), Value.slice none (0) (0), Value.int .i64 (0), Value.int .i64 (0), Value.slice none (0) (0)]) rfl tst26 tz26 rfl) ?_
              refine VO.store (k := 8) (c' := [Value.int .i64 (0), Value.int .i64 (0), Value.int .u8 (0), Value.int .i64 (0), Value.slice none (0) (0), Value.int .i64 (0), Value.int .i64 (0), Value.slice none (0) (0)]) 102 rfl rfl (.inl tk26) rfl rfl rfl rfl rfl ?_
              refine VO.as ?_
              refine VO.k10 0 2 3 4 5 17 18 50 78 99 ?_
              refine VC.ret ?_
              refine outR ?_
              refine ⟨_, _, res_run (rs := [.cell 2 26, .tmp 3]) rfl (.agg 102 rfl tk26 rfl ⟨_, _, _, mone_self _ _, Nat.le_of_ble_eq_true rfl, rfl⟩ (.tmp rfl .nil)), fun W_ hI => out_of (l := []) hI [] rfl rfl (mle_refl _) (fun hS_ => ?_)⟩
              dsimp only [packV]
              have he0 : ((lDec d0).1 : Ty.Den TMessage) = (0, 0, 0, 0, [], 0, 0, []) := by first | rfl | (exact fin0_lDec_ok)
              refine ⟨[Value.int .i64 (0), Value.int .i64 (0), Value.int .u8 (0), Value.int .i64 (0), Value.slice none (0) (0), Value.int .i64 (0), Value.int .i64 (0), Value.slice none (0) (0)], ?_, ?_⟩
              rotate_left
              · rw [he0]; exact (mkO_Message 0 0 0 0 [] 0 0 [] (Seps.nilAt 1 (Seps.nilAt 0 hS_)) bdk bdk bdk bdk (Ow.nil _ _) bdk bdk (Ow.nil _ _))
              all_goals (first | rfl | (exact fin0_lDec_ok))
            · -- FFTFFF
              refine VC.skip ?_
              refine outN ?_
              refine VC.rs ?_
              refine VO.y rfl (.ldA 118 rfl tk26 rfl (cellsAt_one rfl rfl)) ?_
              refine VO.store (k := 8) (c' := [Value.int .i64 ((nz1 d0).1), Value.int .i64 ((nz2 d0).1), Value.int .u8 (0), Value.int .i64 ((nz3 d0).1), Value.slice none (0) (0), Value.int .i64 (0), Value.int .i64 (0), Value.slice none (0) (0)]) 102 rfl rfl (.inl tk26) rfl rfl rfl rfl rfl ?_
              refine VO.as ?_
              refine VO.k10 0 2 3 4 5 17 18 50 78 99 ?_
              refine VC.ret ?_
              refine ⟨_, _, res_run (rs := [.cell 2 26, .tmp 3]) rfl (.agg 102 rfl tk26 rfl ⟨_, _, _, mone_self _ _, Nat.le_of_ble_eq_true rfl, rfl⟩ (.tmp rfl .nil)), fun W_ hI => out_of (l := []) hI [] rfl rfl (mle_refl _) (fun hS_ => ?_)⟩
              dsimp only [packV]
              have he0 : ((lDec d0).1 : Ty.Den TMessage) = ((nz1 d0).1, (nz2 d0).1, 0, (nz3 d0).1, [], 0, 0, []) := by first | rfl | (exact fin0_lDec_ok)
              refine ⟨[Value.int .i64 ((nz1 d0).1), Value.int .i64 ((nz2 d0).1), Value.int .u8 (0), Value.int .i64 ((nz3 d0).1), Value.slice none (0) (0), Value.int .i64 (0), Value.int .i64 (0), Value.slice none (0) (0)], ?_, ?_⟩
              rotate_left
              · rw [he0]; exact (mkO_Message ((nz1 d0).1) ((nz2 d0).1) 0 ((nz3 d0).1) [] 0 0 [] (Seps.nilAt 1 (Seps.nilAt 0 hS_)) bdk bdk bdk bdk (Ow.nil _ _) bdk bdk (Ow.nil _ _))
              all_goals (first | rfl | (exact fin0_lDec_ok))
      · -- FFF
        refine VC.skip ?_
        refine outBN ?_
        refine outN ?_
        refine VC.seq ?_
        refine VC.rs ?_
        refine VO.mv ?_
        refine VO.y rfl (.nilp rfl) ?_
        refine VO.y rfl (.fa rfl tst74 rfl) ?_
        refine VO.y rfl (.ld1 104 rfl tk4 rfl (cellsAt_one rfl rfl)) ?_
        refine VO.mv ?_
        refine VO.decB (t := 87) rfl (fun hc113 => ?_) (fun hc113 => ?_)
        · -- FFFT
          refine VO.gN ?_
          refine VO.gN ?_
          refine VO.gN ?_
          refine VO.gN ?_
          refine VO.gN ?_
          refine VO.gN ?_
          refine VO.y rfl (.pT rfl rfl) ?_
          refine VO.mv ?_
          refine VO.gN ?_
          refine VO.gN ?_
          refine VO.gN ?_
          refine VO.y rfl (.pT rfl rfl) ?_
          refine VO.k10 0 2 3 4 5 17 18 50 78 99 ?_
          refine VC.condT rfl ?_
          refine VC.rs ?_
          refine VO.y rfl (.bst (cs := [Value.int .i64 (0), Value.int .i64 (0), Value.int .u8 (0), Value.int .i64 (0), Value.slice none (0) (0), Value.int .i64 (0), Value.int .i64 (0), Value.slice none (0) (0)]) rfl tst26 tz26 rfl) ?_
          refine VO.store (k := 8) (c' := [Value.int .i64 (0), Value.int .i64 (0), Value.int .u8 (0), Value.int .i64 (0), Value.slice none (0) (0), Value.int .i64 (0), Value.int .i64 (0), Value.slice none (0) (0)]) 102 rfl rfl (.inl tk26) rfl rfl rfl rfl rfl ?_
          refine VO.as ?_
          refine VO.keep [118, 104, 102, 0] [(118, mone g17 (.cells [Value.int .i64 ((nz1 d0).1), Value.int .i64 ((nz2 d0).1), Value.int .u8 (0), Value.int .i64 (0), Value.slice none (0) (0), Value.int .i64 (0), Value.int .i64 (0), Value.slice none (0) (0)].toArray 26 (0, 0))), (104, mone g3 (.cells [Value.slice A16 ((d0.drop (nz2 d0).2.1.toNat).length) ((c0 - (((nz1 d0).2.1 - (0 : Int)).toNat)) - (((nz2 d0).2.1 - (nz1 d0).2.1).toNat)), Value.bool ((nz2 d0).2.2)].toArray 74 (0, 0))), (102, mone g1 (.cells [Value.int .i64 (0), Value.int .i64 (0), Value.int .u8 (0), Value.int .i64 (0), Value.slice none (0) (0), Value.int .i64 (0), Value.int .i64 (0), Value.slice none (0) (0)].toArray 26 (0, 0))), (0, wm W)] (by kernel_rfl) ?_
          refine VO.k10 0 2 3 4 5 17 18 50 78 99 ?_
          refine VC.ret ?_
          refine outR ?_
          refine ⟨_, _, res_run (rs := [.cell 2 26, .tmp 3]) rfl (.agg 102 rfl tk26 rfl ⟨_, _, _, mone_self _ _, Nat.le_of_ble_eq_true rfl, rfl⟩ (.tmp rfl .nil)), fun W_ hI => out_of (l := []) hI [] rfl rfl (mle_refl _) (fun hS_ => ?_)⟩
          dsimp only [packV]
          have he0 : ((lDec d0).1 : Ty.Den TMessage) = (0, 0, 0, 0, [], 0, 0, []) := by first | rfl | (exact fin0_lDec_ok)
          refine ⟨[Value.int .i64 (0), Value.int .i64 (0), Value.int .u8 (0), Value.int .i64 (0), Value.slice none (0) (0), Value.int .i64 (0), Value.int .i64 (0), Value.slice none (0) (0)], ?_, ?_⟩
          rotate_left
          · rw [he0]; exact (mkO_Message 0 0 0 0 [] 0 0 [] (Seps.nilAt 1 (Seps.nilAt 0 hS_)) bdk bdk bdk bdk (Ow.nil _ _) bdk bdk (Ow.nil _ _))
          all_goals (first | rfl | (exact fin0_lDec_ok))
        · -- FFFF
          refine VO.gy rfl ⟨_, rfl, rfl⟩ (.mv rfl) ?_
          refine VO.gy rfl ⟨_, rfl, rfl⟩ (.nilp rfl) ?_
          refine VO.gy rfl ⟨_, rfl, rfl⟩ (.fa rfl tst74 rfl) ?_
          refine VO.gy rfl ⟨_, rfl, rfl⟩ (.ld1 104 rfl tk30 rfl (cellsAt_one rfl rfl)) ?_
          refine VO.gy rfl ⟨_, rfl, rfl⟩ (.lenS rfl tsl30) ?_
          refine VO.gy rfl ⟨_, rfl, rfl⟩ (.gtr rfl rfl) ?_
          refine VO.y rfl (.pF rfl rfl) ?_
          refine VO.mv ?_
          refine VO.dec (t := 95) rfl (fun hc114 => ?_) (fun hc114 => ?_)
          · -- FFFFT
            refine VO.gN ?_
            refine VO.gN ?_
            refine VO.gN ?_
            refine VO.y rfl (.pT rfl rfl) ?_
            refine VO.k10 0 2 3 4 5 17 18 50 78 99 ?_
            refine VC.condT rfl ?_
            refine VC.rs ?_
            refine VO.y rfl (.bst (cs := [Value.int .i64 (0), Value.int .i64 (0), Value.int .u8 (0), Value.int .i64 (0), Value.slice none (0) (0), Value.int .i64 (0), Value.int .i64 (0), Value.slice none (0) (0)]) rfl tst26 tz26 rfl) ?_
            refine VO.store (k := 8) (c' := [Value.int .i64 (0), Value.int .i64 (0), Value.int .u8 (0), Value.int .i64 (0), Value.slice none (0) (0), Value.int .i64 (0), Value.int .i64 (0), Value.slice none (0) (0)]) 102 rfl rfl (.inl tk26) rfl rfl rfl rfl rfl ?_
            refine VO.as ?_
            refine VO.keep [118, 104, 102, 0] [(118, mone g17 (.cells [Value.int .i64 ((nz1 d0).1), Value.int .i64 ((nz2 d0).1), Value.int .u8 (0), Value.int .i64 (0), Value.slice none (0) (0), Value.int .i64 (0), Value.int .i64 (0), Value.slice none (0) (0)].toArray 26 (0, 0))), (104, mone g3 (.cells [Value.slice A16 ((d0.drop (nz2 d0).2.1.toNat).length) ((c0 - (((nz1 d0).2.1 - (0 : Int)).toNat)) - (((nz2 d0).2.1 - (nz1 d0).2.1).toNat)), Value.bool ((nz2 d0).2.2)].toArray 74 (0, 0))), (102, mone g1 (.cells [Value.int .i64 (0), Value.int .i64 (0), Value.int .u8 (0), Value.int .i64 (0), Value.slice none (0) (0), Value.int .i64 (0), Value.int .i64 (0), Value.slice none (0) (0)].toArray 26 (0, 0))), (0, wm W)] (by kernel_rfl) ?_
            refine VO.k10 0 2 3 4 5 17 18 50 78 99 ?_
            refine VC.ret ?_
            refine outR ?_
            refine ⟨_, _, res_run (rs := [.cell 2 26, .tmp 3]) rfl (.agg 102 rfl tk26 rfl ⟨_, _, _, mone_self _ _, Nat.le_of_ble_eq_true rfl, rfl⟩ (.tmp rfl .nil)), fun W_ hI => out_of (l := []) hI [] rfl rfl (mle_refl _) (fun hS_ => ?_)⟩
            dsimp only [packV]
            have he0 : ((lDec d0).1 : Ty.Den TMessage) = (0, 0, 0, 0, [], 0, 0, []) := by first | rfl | (exact fin0_lDec_ok)
            refine ⟨[Value.int .i64 (0), Value.int .i64 (0), Value.int .u8 (0), Value.int .i64 (0), Value.slice none (0) (0), Value.int .i64 (0), Value.int .i64 (0), Value.slice none (0) (0)], ?_, ?_⟩
            rotate_left
            · rw [he0]; exact (mkO_Message 0 0 0 0 [] 0 0 [] (Seps.nilAt 1 (Seps.nilAt 0 hS_)) bdk bdk bdk bdk (Ow.nil _ _) bdk bdk (Ow.nil _ _))
            all_goals (first | rfl | (exact fin0_lDec_ok))
          · -- FFFFF
            refine VO.gy rfl ⟨_, rfl, rfl⟩ (.ldA 118 rfl tk26 rfl (cellsAt_one rfl rfl)) ?_
            refine VO.gcallN 215 rfl ⟨_, rfl, rfl⟩ fnOk13 rfl (fun W hW => lCheck_ok W (mk_Message (m := wm W) ((nz1 d0).1) ((nz2 d0).1) 0 0 [] 0 0 [] bdk bdk bdk bdk (Rd.nil _ _ none 0 (Nat.zero_le _)) bdk bdk (Rd.nil _ _ none 0 (Nat.zero_le _)))) (fun v115 m115 hv115 => ?_)
            try dsimp only at hv115
            subst hv115
            have hfa116 := lCheck_range ((nz1 d0).1, (nz2 d0).1, 0, 0, [], 0, 0, [])
            refine VO.gy rfl ⟨_, rfl, rfl⟩ (.neq rfl rfl) ?_
            refine VO.y rfl (.pF rfl rfl) ?_
            refine VO.k10 0 2 3 4 5 17 18 50 78 99 ?_
            refine VC.cond rfl (fun hc117 => ?_) (fun hc117 => ?_)
            · -- FFFFFT
              refine VC.rs ?_
              refine VO.y rfl (.bst (cs := [Value.int .i64 (0), Value.int .i64 (0), Value.int .u8 (0), Value.int .i64 (0), Value.slice none (0) (0), Value.int .i64 (0), Value.int .i64 (0), Value.slice none (0) (0)]) rfl tst26 tz26 rfl) ?_
              refine VO.store (k := 8) (c' := [Value.int .i64 (0), Value.int .i64 (0), Value.int .u8 (0), Value.int .i64 (0), Value.slice none (0) (0), Value.int .i64 (0), Value.int .i64 (0), Value.slice none (0) (0)]) 102 rfl rfl (.inl tk26) rfl rfl rfl rfl rfl ?_
              refine VO.as ?_
              refine VO.keep [118, 104, 102, 0] [(118, mone g17 (.cells [Value.int .i64 ((nz1 d0).1), Value.int .i64 ((nz2 d0).1), Value.int .u8 (0), Value.int .i64 (0), Value.slice none (0) (0), Value.int .i64 (0), Value.int .i64 (0), Value.slice none (0) (0)].toArray 26 (0, 0))), (104, mone g3 (.cells [Value.slice A16 ((d0.drop (nz2 d0).2.1.toNat).length) ((c0 - (((nz1 d0).2.1 - (0 : Int)).toNat)) - (((nz2 d0).2.1 - (nz1 d0).2.1).toNat)), Value.bool ((nz2 d0).2.2)].toArray 74 (0, 0))), (102, mone g1 (.cells [Value.int .i64 (0), Value.int .i64 (0), Value.int .u8 (0), Value.int .i64 (0), Value.slice none (0) (0), Value.int .i64 (0), Value.int .i64 (0), Value.slice none (0) (0)].toArray 26 (0, 0))), (0, wm W)] (by kernel_rfl) ?_
              refine VO.k10 0 2 3 4 5 17 18 50 78 99 ?_
              refine VC.ret ?_
              refine outR ?_
              refine ⟨_, _, res_run (rs := [.cell 2 26, .tmp 3]) rfl (.agg 102 rfl tk26 rfl ⟨_, _, _, mone_self _ _, Nat.le_of_ble_eq_true rfl, rfl⟩ (.tmp rfl .nil)), fun W_ hI => out_of (l := []) hI [] rfl rfl (mle_refl _) (fun hS_ => ?_)⟩
              dsimp only [packV]
              have he0 : ((lDec d0).1 : Ty.Den TMessage) = (0, 0, 0, 0, [], 0, 0, []) := by first | rfl | (exact fin0_lDec_ok)
              refine ⟨[Value.int .i64 (0), Value.int .i64 (0), Value.int .u8 (0), Value.int .i64 (0), Value.slice none (0) (0), Value.int .i64 (0), Value.int .i64 (0), Value.slice none (0) (0)], ?_, ?_⟩
              rotate_left
              · rw [he0]; exact (mkO_Message 0 0 0 0 [] 0 0 [] (Seps.nilAt 1 (Seps.nilAt 0 hS_)) bdk bdk bdk bdk (Ow.nil _ _) bdk bdk (Ow.nil _ _))
              all_goals (first | rfl | (exact fin0_lDec_ok))
            · -- FFFFFF
              refine VC.skip ?_
              refine outN ?_
              refine VC.rs ?_
              refine VO.y rfl (.ldA 118 rfl tk26 rfl (cellsAt_one rfl rfl)) ?_
              refine VO.store (k := 8) (c' := [Value.int .i64 ((nz1 d0).1), Value.int .i64 ((nz2 d0).1), Value.int .u8 (0), Value.int .i64 (0), Value.slice none (0) (0), Value.int .i64 (0), Value.int .i64 (0), Value.slice none (0) (0)]) 102 rfl rfl (.inl tk26) rfl rfl rfl rfl rfl ?_
              refine VO.as ?_
              refine VO.keep [118, 104, 102, 0] [(118, mone g17 (.cells [Value.int .i64 ((nz1 d0).1), Value.int .i64 ((nz2 d0).1), Value.int .u8 (0), Value.int .i64 (0), Value.slice none (0) (0), Value.int .i64 (0), Value.int .i64 (0), Value.slice none (0) (0)].toArray 26 (0, 0))), (104, mone g3 (.cells [Value.slice A16 ((d0.drop (nz2 d0).2.1.toNat).length) ((c0 - (((nz1 d0).2.1 - (0 : Int)).toNat)) - (((nz2 d0).2.1 - (nz1 d0).2.1).toNat)), Value.bool ((nz2 d0).2.2)].toArray 74 (0, 0))), (102, mone g1 (.cells [Value.int .i64 ((nz1 d0).1), Value.int .i64 ((nz2 d0).1), Value.int .u8 (0), Value.int .i64 (0), Value.slice none (0) (0), Value.int .i64 (0), Value.int .i64 (0), Value.slice none (0) (0)].toArray 26 (0, 0))), (0, wm W)] (by kernel_rfl) ?_
              refine VO.k10 0 2 3 4 5 17 18 50 78 99 ?_
              refine VC.ret ?_
              refine ⟨_, _, res_run (rs := [.cell 2 26, .tmp 3]) rfl (.agg 102 rfl tk26 rfl ⟨_, _, _, mone_self _ _, Nat.le_of_ble_eq_true rfl, rfl⟩ (.tmp rfl .nil)), fun W_ hI => out_of (l := []) hI [] rfl rfl (mle_refl _) (fun hS_ => ?_)⟩
              dsimp only [packV]
              have he0 : ((lDec d0).1 : Ty.Den TMessage) = ((nz1 d0).1, (nz2 d0).1, 0, 0, [], 0, 0, []) := by first | rfl | (exact fin0_lDec_ok)
              refine ⟨[Value.int .i64 ((nz1 d0).1), Value.int .i64 ((nz2 d0).1), Value.int .u8 (0), Value.int .i64 (0), Value.slice none (0) (0), Value.int .i64 (0), Value.int .i64 (0), Value.slice none (0) (0)], ?_, ?_⟩
              rotate_left
              · rw [he0]; exact (mkO_Message ((nz1 d0).1) ((nz2 d0).1) 0 0 [] 0 0 [] (Seps.nilAt 1 (Seps.nilAt 0 hS_)) bdk bdk bdk bdk (Ow.nil _ _) bdk bdk (Ow.nil _ _))
              all_goals (first | rfl | (exact fin0_lDec_ok))
end
section
set_option linter.unusedVariables false
def smallM (m : DMessage) : Prop := (∀ c ∈ m.2.2.2.2.2.2.2, c.2.2.length ≤ 40) ∧ m.2.2.2.2.1.length ≤ 40 ∧ m.2.2.2.2.2.2.2.length ≤ 40
instance (m : DMessage) : Decidable (smallM m) := by unfold smallM; infer_instance
theorem ex11a : lEncode (3, 2, 0, 7, [], 0, 0, []) = ([3, 2, 7], 0) := by
  rw [lEncode_ack (by decide) (by decide) (by decide)]; simp [venc_last]
theorem ex11b : lEncode (1, 2, 2, 3, [(1, 1), (2, 3)], 0, 0, []) = ([1, 2, 2, 3, 2, 1, 1, 2, 3], 0) := by
  rw [lEncode_hello (by decide) rfl]; simp [lHd, sEnc, venc_last]
theorem ex11c : lEncode (2, 1, 0, 0, [], 1, 0, []) = ([2, 1, 1, 0, 0], 0) := by
  rw [lEncode_ship (by decide) (by decide) rfl]; simp [lHs, csEnc, venc_last]
end
section
set_option linter.unusedVariables false
set_option linter.unusedSimpArgs false
set_option maxRecDepth 4000
theorem fnOk11 : fnOk Try.prog 11 = true := by kernel_rfl
theorem fnOk20 : fnOk Try.prog 20 = true := by kernel_rfl
theorem fnOk8 : fnOk Try.prog 8 = true := by kernel_rfl
theorem fin0_lives11_ok {P : Prop} (h : P := by first | omega | (simp only [List.length_append, List.length_nil, List.length_cons, List.length_take, List.length_drop] at *; omega) | (have : exC.length = 6 := rfl; omega) | decide) : P := h
theorem lives11_ok (W : World) : CallR Try.prog 8 [] W (mnil) (fun v m' => v = .bool true) := by
  refine CallR.ofA (n := 34) Try.func8 rfl rfl rfl ?_
  refine VC.rs ?_
  refine VO.as ?_
  refine VO.k1 0 ?_
  refine VC.rs ?_
  refine VO.y rfl (.bst (cs := [Value.int .i64 (3), Value.int .i64 (2), Value.int .u8 (0), Value.int .i64 (7), Value.slice none (0) (0), Value.int .i64 (0), Value.int .i64 (0), Value.slice none (0) (0)]) rfl tst26 tz26 rfl) ?_
  refine VO.callN 101 rfl fnOk11 rfl (fun W hW => lEncode_ok W (mk_Message (m := wm W) 3 2 0 7 [] 0 0 [] (by simp only [inK]; (exact fin0_lives11_ok)) (by simp only [inK]; (exact fin0_lives11_ok)) (by simp only [inK]; (exact fin0_lives11_ok)) (by simp only [inK]; (exact fin0_lives11_ok)) (Rd.nil _ _ none 0 (Nat.zero_le _)) (by simp only [inK]; (exact fin0_lives11_ok)) (by simp only [inK]; (exact fin0_lives11_ok)) (Rd.nil _ _ none 0 (Nat.zero_le _)))) (fun v1 m1 hv1 => ?_)
  try dsimp only at hv1
  obtain ⟨s1_0, rfl, f1_0⟩ := hv1
  have hfa2 := lEncode_len (3, 2, 0, 7, [], 0, 0, [])
  generalize hq1_0 : ((lEncode (3, 2, 0, 7, [], 0, 0, [])).1) = r1_0 at f1_0
  obtain ⟨A1_0, c1_0, eq1_0, l1_0, k1_0⟩ := f1_0.slice
  subst eq1_0
  simp only [maxLen] at k1_0
  refine VO.mv ?_
  refine VO.y rfl (.ext rfl rfl) ?_
  refine VO.y rfl (.ext rfl rfl) ?_
  refine VO.as ?_
  refine VO.as ?_
  refine VO.k3 0 1 2 ?_
  refine VC.rs ?_
  refine VO.y rfl (.bst (cs := [Value.int .i64 (1), Value.int .i64 (1)]) rfl tst57 tz57 rfl) ?_
  refine VO.y rfl (.bst (cs := [Value.int .i64 (2), Value.int .i64 (3)]) rfl tst57 tz57 rfl) ?_
  refine VO.bsl (cs := [Value.int .i64 (1), Value.int .i64 (1), Value.int .i64 (2), Value.int .i64 (3)]) 104 rfl rfl tsl23 tz57 rfl rfl (fun g3 => ?_)
  refine VO.y rfl (.bst (cs := [Value.int .i64 (1), Value.int .i64 (2), Value.int .u8 (2), Value.int .i64 (3), Value.slice (some ⟨g3, 0, none⟩) (2) (2), Value.int .i64 (0), Value.int .i64 (0), Value.slice none (0) (0)]) rfl tst26 tz26 rfl) ?_
  have ho6 : OwnL TStart (mone g3 (.cells [Value.int .i64 (1), Value.int .i64 (1), Value.int .i64 (2), Value.int .i64 (3)].toArray 57 (0, 0))) mnil (Value.slice (some ⟨g3, 0, none⟩) (2) (2)) [(1, 1), (2, 3)] := OwnL.lit 2 (All2c.cons (c1 := [Value.int .i64 (1), Value.int .i64 (1)]) (mk_Start (m := _) 1 1 (by simp only [inK]; (exact fin0_lives11_ok)) (by simp only [inK]; (exact fin0_lives11_ok))) (All2c.cons (c1 := [Value.int .i64 (2), Value.int .i64 (3)]) (mk_Start (m := _) 2 3 (by simp only [inK]; (exact fin0_lives11_ok)) (by simp only [inK]; (exact fin0_lives11_ok))) All2c.nil)) rfl rfl
  refine VO.callN 105 rfl fnOk11 rfl (fun W hW => lEncode_ok W (mk_Message (m := wm W) 1 2 2 3 ([(1, 1), (2, 3)]) 0 0 [] (by simp only [inK]; (exact fin0_lives11_ok)) (by simp only [inK]; (exact fin0_lives11_ok)) (by simp only [inK]; (exact fin0_lives11_ok)) (by simp only [inK]; (exact fin0_lives11_ok)) (OwnL.rd ho6 (hW.at (i := 104) rfl) (mle_nil _)) (by simp only [inK]; (exact fin0_lives11_ok)) (by simp only [inK]; (exact fin0_lives11_ok)) (Rd.nil _ _ none 0 (Nat.zero_le _)))) (fun v5 m5 hv5 => ?_)
  try dsimp only at hv5
  obtain ⟨s5_0, rfl, f5_0⟩ := hv5
  have hfa7 := lEncode_len (1, 2, 2, 3, [(1, 1), (2, 3)], 0, 0, [])
  generalize hq5_0 : ((lEncode (1, 2, 2, 3, [(1, 1), (2, 3)], 0, 0, [])).1) = r5_0 at f5_0
  obtain ⟨A5_0, c5_0, eq5_0, l5_0, k5_0⟩ := f5_0.slice
  subst eq5_0
  simp only [maxLen] at k5_0
  refine VO.mv ?_
  refine VO.y rfl (.ext rfl rfl) ?_
  refine VO.y rfl (.ext rfl rfl) ?_
  refine VO.as ?_
  refine VO.as ?_
  refine VO.keep [105, 101, 0] [(105, m5), (101, m1), (0, wm W)] (by kernel_rfl) ?_
  refine VO.k5 0 1 2 3 4 ?_
  refine VC.rs ?_
  refine VO.mv ?_
  refine VO.y rfl (.eql rfl rfl) ?_
  refine VO.mv ?_
  refine VO.dec (t := 20) rfl (fun hc8 => ?_) (fun hc8 => ?_)
  · -- T
    refine VO.gy rfl ⟨_, rfl, rfl⟩ (.mv rfl) ?_
    refine VO.gy rfl ⟨_, rfl, rfl⟩ (.eql rfl rfl) ?_
    refine VO.y rfl (.pT rfl rfl) ?_
    refine VO.mv ?_
    refine VO.dec (t := 24) rfl (fun hc9 => ?_) (fun hc9 => ?_)
    · -- TT
      refine VO.gy rfl ⟨_, rfl, rfl⟩ (.mv rfl) ?_
      refine VO.gbsl (cs := [Value.int .u8 (3), Value.int .u8 (2), Value.int .u8 (7)]) 111 rfl ⟨_, rfl, rfl⟩ rfl tsl30 tz5 rfl rfl (fun g10 => ?_)
      have ho13 : OwnL .byte (mone g10 (.cells [Value.int .u8 (3), Value.int .u8 (2), Value.int .u8 (7)].toArray 5 (0, 0))) mnil (Value.slice (some ⟨g10, 0, none⟩) (3) (3)) [UInt8.ofNat 3, UInt8.ofNat 2, UInt8.ofNat 7] := OwnL.lit 3 (All2c.cons (c1 := [Value.int .u8 (3)]) (rd_byteN (by exact fin0_lives11_ok)) (All2c.cons (c1 := [Value.int .u8 (2)]) (rd_byteN (by exact fin0_lives11_ok)) (All2c.cons (c1 := [Value.int .u8 (7)]) (rd_byteN (by exact fin0_lives11_ok)) All2c.nil))) rfl rfl
      refine VO.gcallN 112 rfl ⟨_, rfl, rfl⟩ fnOk15 rfl (fun W hW => SameBytes_ok W (OwnL.rd (Ow.ownl f1_0 rfl mnil) (hW.at (i := 101) rfl) (mle_nil _)) (OwnL.rd ho13 (hW.at (i := 111) rfl) (mle_nil _))) (fun v12 m12 hv12 => ?_)
      subst hv12
      refine VO.y rfl (.pT rfl rfl) ?_
      refine VO.mv ?_
      refine VO.dec (t := 29) rfl (fun hc14 => ?_) (fun hc14 => ?_)
      · -- TTT
        refine VO.gy rfl ⟨_, rfl, rfl⟩ (.mv rfl) ?_
        refine VO.gbsl (cs := [Value.int .u8 (1), Value.int .u8 (2), Value.int .u8 (2), Value.int .u8 (3), Value.int .u8 (2), Value.int .u8 (1), Value.int .u8 (1), Value.int .u8 (2), Value.int .u8 (3)]) 116 rfl ⟨_, rfl, rfl⟩ rfl tsl30 tz5 rfl rfl (fun g15 => ?_)
        have ho18 : OwnL .byte (mone g15 (.cells [Value.int .u8 (1), Value.int .u8 (2), Value.int .u8 (2), Value.int .u8 (3), Value.int .u8 (2), Value.int .u8 (1), Value.int .u8 (1), Value.int .u8 (2), Value.int .u8 (3)].toArray 5 (0, 0))) mnil (Value.slice (some ⟨g15, 0, none⟩) (9) (9)) [UInt8.ofNat 1, UInt8.ofNat 2, UInt8.ofNat 2, UInt8.ofNat 3, UInt8.ofNat 2, UInt8.ofNat 1, UInt8.ofNat 1, UInt8.ofNat 2, UInt8.ofNat 3] := OwnL.lit 9 (All2c.cons (c1 := [Value.int .u8 (1)]) (rd_byteN (by exact fin0_lives11_ok)) (All2c.cons (c1 := [Value.int .u8 (2)]) (rd_byteN (by exact fin0_lives11_ok)) (All2c.cons (c1 := [Value.int .u8 (2)]) (rd_byteN (by exact fin0_lives11_ok)) (All2c.cons (c1 := [Value.int .u8 (3)]) (rd_byteN (by exact fin0_lives11_ok)) (All2c.cons (c1 := [Value.int .u8 (2)]) (rd_byteN (by exact fin0_lives11_ok)) (All2c.cons (c1 := [Value.int .u8 (1)]) (rd_byteN (by exact fin0_lives11_ok)) (All2c.cons (c1 := [Value.int .u8 (1)]) (rd_byteN (by exact fin0_lives11_ok)) (All2c.cons (c1 := [Value.int .u8 (2)]) (rd_byteN (by exact fin0_lives11_ok)) (All2c.cons (c1 := [Value.int .u8 (3)]) (rd_byteN (by exact fin0_lives11_ok)) All2c.nil))))))))) rfl rfl
        refine VO.gcallN 117 rfl ⟨_, rfl, rfl⟩ fnOk15 rfl (fun W hW => SameBytes_ok W (OwnL.rd (Ow.ownl f5_0 rfl mnil) (hW.at (i := 105) rfl) (mle_nil _)) (OwnL.rd ho18 (hW.at (i := 116) rfl) (mle_nil _))) (fun v17 m17 hv17 => ?_)
        subst hv17
        refine VO.y rfl (.pT rfl rfl) ?_
        refine VO.as ?_
        refine VO.k5 0 1 2 3 4 ?_
        refine VC.ret ?_
        refine ⟨_, _, res_run (rs := [.tmp 0]) rfl (.tmp rfl .nil), fun W_ hI => out_of (l := []) hI [] rfl rfl (mle_refl _) (fun hS_ => ?_)⟩
        dsimp only [packV]
        all_goals (first | rfl | (exact congrArg Value.bool (decide_eq_true (by subst_vars; first | (simp only [ex11a, ex11b, ex11c]; done) | (simp only [ex11a, ex11b, ex11c]; first | rfl | decide) | rfl | decide))))
      · -- TTF
        exact absurd (by subst_vars; first | (simp only [ex11a, ex11b, ex11c]; done) | (simp only [ex11a, ex11b, ex11c]; first | rfl | decide) | rfl | decide) hc14
    · -- TF
      exact absurd (by subst_vars; first | (simp only [ex11a, ex11b, ex11c]; done) | (simp only [ex11a, ex11b, ex11c]; first | rfl | decide) | rfl | decide) hc9
  · -- F
    exact absurd (by subst_vars; first | (simp only [ex11a, ex11b, ex11c]; done) | (simp only [ex11a, ex11b, ex11c]; first | rfl | decide) | rfl | decide) hc8
end
section
set_option linter.unusedVariables false
def rComms (B : Bytes) (s : RS) : List DCommit × RS := pComms (rComm B) (rNum B 4 s).1.toNat (rNum B 4 s).2
theorem rComm_bad {B : Bytes} {s : RS} (h : ¬ (cDecode (rBytes B (rNum B 65536 s).1 (rNum B 65536 s).2).1).2 = 0) : rComm B s = ((cDecode (rBytes B (rNum B 65536 s).1 (rNum B 65536 s).2).1).1, ((rBytes B (rNum B 65536 s).1 (rNum B 65536 s).2).2.1, true)) := by
  unfold rComm; dsimp only; rw [decide_eq_true h, Bool.or_true]
theorem rComm_good {B : Bytes} {s : RS} (h : (cDecode (rBytes B (rNum B 65536 s).1 (rNum B 65536 s).2).1).2 = 0) : rComm B s = ((cDecode (rBytes B (rNum B 65536 s).1 (rNum B 65536 s).2).1).1, ((rBytes B (rNum B 65536 s).1 (rNum B 65536 s).2).2.1, (rBytes B (rNum B 65536 s).1 (rNum B 65536 s).2).2.2)) := by
  unfold rComm; dsimp only; rw [decide_eq_false (fun q => q h), Bool.or_false]
theorem rComms_fin {B : Bytes} {s : RS} {cs : List DCommit} {n a : Int} {b : Bool} (h : pComms (rComm B) (rNum B 4 s).1.toNat (rNum B 4 s).2 = (cs ++ (pComms (rComm B) n.toNat (a, b)).1, (pComms (rComm B) n.toNat (a, b)).2)) (hn : n ≤ 0 ∨ b = true) : rComms B s = (cs, (a, b)) := comms_fin h hn
theorem comm_next {B : Bytes} {L cs : List DCommit} {e : RS} {n a : Int} {b : Bool} {c : DCommit} {t : RS} (h : (L, e) = (cs ++ (pComms (rComm B) n.toNat (a, b)).1, (pComms (rComm B) n.toNat (a, b)).2)) (hn : 0 < n) (hb : b = false) (hc : rComm B (a, b) = (c, t)) :
    (L, e) = ((cs ++ [c]) ++ (pComms (rComm B) (n - 1).toNat t).1, (pComms (rComm B) (n - 1).toNat t).2) := by
  have := comms_step h hn hb
  rw [hc] at this
  exact this
theorem rComms_ok {B : Bytes} {s : RS} (hs : rOk B s) : rOk B (rComms B s).2 ∧ (rComms B s).1.length ≤ 4 := by
  have k := rNum_ok (m := 4) hs (by omega)
  have hR : ∀ (n : Nat) (s : RS), rOk B s → rOk B (pComms (rComm B) n s).2 ∧ (pComms (rComm B) n s).1.length ≤ n := by
    intro n
    induction n with
    | zero => intro s h; exact ⟨h, Nat.le_refl _⟩
    | succ n ih =>
      intro s h
      unfold pComms
      by_cases h0 : s.2 = true
      · rw [if_pos h0]; exact ⟨h, Nat.zero_le _⟩
      · rw [if_neg h0]
        have k1 := rNum_ok (m := 65536) h (by omega)
        have k2 := rBytes_ok (n := (rNum B 65536 s).1) k1.1 k1.2.1
        have : rOk B (rComm B s).2 := k2.1
        have q := ih _ this
        exact ⟨q.1, by simp only [List.length_cons]; omega⟩
  have q := hR (rNum B 4 s).1.toNat _ k.1
  have k4 : (rNum B 4 s).1 ≤ 4 := k.2.2.2.1 (by omega)
  exact ⟨q.1, by have := q.2; unfold rComms; omega⟩
theorem lDec_ref {B : Bytes} (hB : B.length ≤ 9223372036854775807) : lDec B = lDecG (rComm B) B := (decG_same (R := lComm) (R' := rComm) good1 good2 B hB).symm
theorem lDecG_no2 {B : Bytes} {R : RS → DCommit × RS} {m : DMessage} {e : RS} (h : lRun R B = (m, e)) (h1 : ¬ (e.2 = false ∧ e.1 = (B.length : Int))) : lDecG R B = (zeroM, 5) := by
  refine lDecG_no h ?_
  cases hb : e.2 with
  | true => exact .inl rfl
  | false => exact .inr (.inl fun q => h1 ⟨hb, q⟩)
theorem lDecG_no3 {B : Bytes} {R : RS → DCommit × RS} {m : DMessage} {e : RS} (h : lRun R B = (m, e)) (h1 : ¬ lCheck m = 0) : lDecG R B = (zeroM, 5) := lDecG_no h (.inr (.inr h1))
theorem lDecG_yes2 {B : Bytes} {R : RS → DCommit × RS} {m : DMessage} {e : RS} (h : lRun R B = (m, e)) (h1 : ¬ ¬ (e.2 = false ∧ e.1 = (B.length : Int))) (h3 : ¬ ¬ lCheck m = 0) : lDecG R B = (m, 0) := lDecG_yes h (Decidable.not_not.1 h1).1 (Decidable.not_not.1 h1).2 (Decidable.not_not.1 h3)
def overS (s : DStart) : DStart := (-s.1 - 1, s.2)
theorem two_dec_a (B : Bytes) : ([(lDec B).1.2.2.2.2.2.2.2, (lDec B).1.2.2.2.2.2.2.2] : List (List DCommit)).flatten.length ≤ 1000 := by
  have := (lDec_fits B).2.1
  simp only [List.flatten_cons, List.flatten_nil, List.append_nil, List.length_append]; omega
theorem two_dec_l (B : Bytes) : ∀ x ∈ ([(lDec B).1.2.2.2.2.2.2.2, (lDec B).1.2.2.2.2.2.2.2] : List (List DCommit)), x.length ≤ 3518437200000 := by
  have := (lDec_fits B).2.1
  intro x hx
  have e : x = (lDec B).1.2.2.2.2.2.2.2 := by simpa using hx
  subst e; omega
theorem two_dec_b (B : Bytes) : ∀ x ∈ ([(lDec B).1.2.2.2.2.2.2.2, (lDec B).1.2.2.2.2.2.2.2] : List (List DCommit)), ∀ c ∈ x, c.2.2.length ≤ 3518437208800 ∧ ∀ o ∈ c.2.2, o.2.1.length ≤ 140737488400000 := by
  have h := (lDec_fits B).2.2
  intro x hx c hc
  have e : x = (lDec B).1.2.2.2.2.2.2.2 := by simpa using hx
  subst e
  have h5 := (cCheck_zero (h c hc)).2.2.2.2
  exact ⟨by have := batchCheck_ok h5; omega, fun o ho => by have := (batchCheck_mem h5 ho).2.1; omega⟩
theorem one_dec (B : Bytes) : ∀ x ∈ ([(lDec B).1.2.2.2.2.1] : List (List DStart)), x.length ≤ 8796093020000 := by
  have := (lDec_fits B).1
  intro x hx
  have e : x = (lDec B).1.2.2.2.2.1 := by simpa using hx
  subst e; omega
theorem lRun_c {B : Bytes} (k1 : ¬ (rNum B 3 (0, false)).1 = 1) (k : (rNum B 3 (0, false)).1 = 2) :
    lRun (rComm B) B = (((rNum B 3 (0, false)).1, (rNum B 1048576 (rNum B 3 (0, false)).2).1, 0, 0, [], (rNum B 1048576 (rNum B 1048576 (rNum B 3 (0, false)).2).2).1, (rNum B 1048576 (rNum B 1048576 (rNum B 1048576 (rNum B 3 (0, false)).2).2).2).1, (rComms B (rNum B 1048576 (rNum B 1048576 (rNum B 1048576 (rNum B 3 (0, false)).2).2).2).2).1), ((rComms B (rNum B 1048576 (rNum B 1048576 (rNum B 1048576 (rNum B 3 (0, false)).2).2).2).2).2.1, (rComms B (rNum B 1048576 (rNum B 1048576 (rNum B 1048576 (rNum B 3 (0, false)).2).2).2).2).2.2)) := lRun_s k1 k rfl
end
section
set_option linter.unusedVariables false
set_option linter.unusedSimpArgs false
set_option maxRecDepth 4000
theorem fnOk22 : fnOk Try.prog 22 = true := by kernel_rfl
theorem fnOk24 : fnOk Try.prog 24 = true := by kernel_rfl
theorem fnOk25 : fnOk Try.prog 25 = true := by kernel_rfl
theorem fnOk26 : fnOk Try.prog 26 = true := by kernel_rfl
theorem fnOk53 : fnOk Try.prog 53 = true := by kernel_rfl
theorem fnOk81 : fnOk Try.prog 81 = true := by kernel_rfl
theorem tsl51 : tsl Try.prog 51 = some (23, 1, 24) := by kernel_rfl
theorem tz23 : tz Try.prog 23 = some [.slice none 0 0] := by kernel_rfl
theorem rComms_ok_ (W : World) {g0 : Nat} {E0 : TypeId} {d0 : Dref01Reader} {b0_0 : Value} (hm : mle (mone g0 (.cells [(b0_0 : Value), .int .i64 d0.2.1, .bool d0.2.2].toArray E0 (0, 0))) (wm W)) (h0_0 : Rd (.sl .byte) (mout (wm W) (mone g0 (.cells [(b0_0 : Value), .int .i64 d0.2.1, .bool d0.2.2].toArray E0 (0, 0)))) [b0_0] d0.1) (h0_1 : inK .i64 d0.2.1) (e0 : rOk d0.1 d0.2) : CallR Try.prog 53 [.pointer (some ⟨g0, 0, none⟩)] W (mone g0 (.cells [(b0_0 : Value), .int .i64 d0.2.1, .bool d0.2.2].toArray E0 (0, 0))) (fun v m' => ∃ (s0 : Value), ∃ (p0 : Mem), v = s0 ∧ Seps m' [p0, mone g0 (.cells [(b0_0 : Value), .int .i64 ((rComms d0.1 d0.2).2.1), .bool ((rComms d0.1 d0.2).2.2)].toArray E0 (0, 0))] ∧ Ow (.sl TCommit) p0 [s0] ((rComms d0.1 d0.2).1) ∧ inK .i64 ((rComms d0.1 d0.2).2.1)) := by
  have e0_ := e0; obtain ⟨e0a, e0b⟩ := e0_
  obtain ⟨A0_0, c0_0, rfl, l0_0, k0_0⟩ := h0_0.slice
  simp only [maxLen] at k0_0
  have h0_1' := h0_1; simp only [inK] at h0_1'
  refine CallR.ofB (n := 38) hm Try.func53 rfl rfl rfl ?_
  refine VC.rs ?_
  refine VO.as ?_
  refine VO.k2 0 2 ?_
  refine VC.rs ?_
  refine VO.as ?_
  refine VO.k3 0 2 3 ?_
  refine VC.seq ?_
  refine VC.rs ?_
  refine VO.mv ?_
  refine VO.call 1 rfl fnOk52 rfl rfl (fun W hW => rSmall_ok W (d0 := d0) (hW.at (i := 1) rfl) (Rd.mono h0_0 (hW.out (i := 1) (j := 0) rfl rfl)) bdk 4 bdk (by first | assumption | exact ⟨by omega, by omega⟩ | exact ⟨by (simp; done), by (simp; done)⟩)) (fun v1 m1 hv1 => ?_)
  obtain ⟨rfl, rfl, w1_0_1⟩ := hv1
  have hfa2 := (rNum_ok (B := d0.1) (m := 4) (s := d0.2) (by first | assumption | exact ⟨by omega, by omega⟩ | exact ⟨by (simp; done), by (simp; done)⟩) (by omega)).1
  have hfa3 := (rNum_ok (B := d0.1) (m := 4) (s := d0.2) (by first | assumption | exact ⟨by omega, by omega⟩ | exact ⟨by (simp; done), by (simp; done)⟩) (by omega)).1.1
  have hfa4 := (rNum_ok (B := d0.1) (m := 4) (s := d0.2) (by first | assumption | exact ⟨by omega, by omega⟩ | exact ⟨by (simp; done), by (simp; done)⟩) (by omega)).1.2
  have hfa5 := (rNum_ok (B := d0.1) (m := 4) (s := d0.2) (by first | assumption | exact ⟨by omega, by omega⟩ | exact ⟨by (simp; done), by (simp; done)⟩) (by omega)).2
  simp only [inK] at w1_0_1
  refine VO.as ?_
  refine VO.keep [1, 0] [(1, mone g0 (.cells [Value.slice A0_0 (d0.1.length) (c0_0), Value.int .i64 ((rNum d0.1 4 d0.2).2.1), Value.bool ((rNum d0.1 4 d0.2).2.2)].toArray E0 (0, 0))), (0, mout (wm W) (mone g0 (.cells [Value.slice A0_0 (d0.1.length) (c0_0), Value.int .i64 (d0.2.1), Value.bool d0.2.2].toArray E0 (0, 0))))] (by kernel_rfl) ?_
  refine VO.k4 0 2 3 4 ?_
  refine VC.block ?_
  refine VC.inv ((106, mnil) :: _) (fun _ h => h.nilc 106) ?_
  refine VC.loop (G := Int × (List DCommit) × (Option Addr) × Nat × Mem × Int × Bool) (fun g => [(3, Value.slice (g.2.2.1) ((g.2.1).length) ((g.2.2.2.1))), (4, Value.int .i64 ((g.1))), (0, Value.pointer (some ⟨g0, 0, none⟩)), (2, Value.slice none (0) (0))]) (fun g => [(106, (g.2.2.2.2.1)), (1, mone g0 (.cells [Value.slice A0_0 (d0.1.length) (c0_0), Value.int .i64 ((g.2.2.2.2.2.1)), Value.bool (g.2.2.2.2.2.2)].toArray E0 (0, 0))), (0, mout (wm W) (mone g0 (.cells [Value.slice A0_0 (d0.1.length) (c0_0), Value.int .i64 (d0.2.1), Value.bool d0.2.2].toArray E0 (0, 0))))]) (fun g => (pComms (rComm d0.1) (rNum d0.1 4 d0.2).1.toNat (rNum d0.1 4 d0.2).2 = ((g.2.1) ++ (pComms (rComm d0.1) (g.1).toNat ((g.2.2.2.2.2.1), (g.2.2.2.2.2.2))).1, (pComms (rComm d0.1) (g.1).toNat ((g.2.2.2.2.2.1), (g.2.2.2.2.2.2))).2)) ∧ (rOk d0.1 ((g.2.2.2.2.2.1), (g.2.2.2.2.2.2))) ∧ ((g.1) ≤ 4) ∧ ((g.2.1).length + (g.1).toNat ≤ 4) ∧ (Ow (.sl TCommit) (g.2.2.2.2.1) [.slice (g.2.2.1) (g.2.1).length (g.2.2.2.1)] (g.2.1))) (fun g => (g.1).toNat) ((rNum d0.1 4 d0.2).1, [], none, 0, mnil, (rNum d0.1 4 d0.2).2.1, (rNum d0.1 4 d0.2).2.2) (⟨by rfl, by first | assumption | exact ⟨by omega, by (dsimp only; omega)⟩, by omega, by (simp; omega), (Ow.nil TCommit mnil)⟩) ⟨⟨rfl, rfl, rfl, rfl, trivial⟩, fun _ h => h.sub [106, 1, 0]⟩ ?_
  rintro ⟨n, cs, cs_A, cs_c, cs_m, at_, bad⟩ ⟨hp, hok, hn, hlen, h_cs⟩
  replace hp : pComms (rComm d0.1) (rNum d0.1 4 d0.2).1.toNat (rNum d0.1 4 d0.2).2 = (cs ++ (pComms (rComm d0.1) n.toNat (at_, bad)).1, (pComms (rComm d0.1) n.toNat (at_, bad)).2) := hp
  replace hok : rOk d0.1 (at_, bad) := hok
  replace hn : n ≤ 4 := hn
  replace hlen : cs.length + n.toNat ≤ 4 := hlen
  replace h_cs : Ow (.sl TCommit) cs_m [.slice cs_A cs.length cs_c] cs := h_cs
  show VC _ _ _ _ _ [(3, Value.slice cs_A (cs.length) (cs_c)), (4, Value.int .i64 (n)), (0, Value.pointer (some ⟨g0, 0, none⟩)), (2, Value.slice none (0) (0))] [(106, cs_m), (1, mone g0 (.cells [Value.slice A0_0 (d0.1.length) (c0_0), Value.int .i64 (at_), Value.bool bad].toArray E0 (0, 0))), (0, mout (wm W) (mone g0 (.cells [Value.slice A0_0 (d0.1.length) (c0_0), Value.int .i64 (d0.2.1), Value.bool d0.2.2].toArray E0 (0, 0))))]
  have l_cs : cs.length ≤ cs_c := by obtain ⟨_, _, he, hl, _⟩ := h_cs.slice; simp only [Value.slice.injEq] at he; omega
  have k_cs : cs_c ≤ 9223372036854775807 := by obtain ⟨_, _, he, _, hl⟩ := h_cs.slice; simp only [Value.slice.injEq, maxLen] at he hl; omega
  obtain ⟨hoka, hokb⟩ := (show 0 ≤ at_ ∧ at_ ≤ d0.1.length from hok)
  refine VC.seq ?_
  refine VC.rs ?_
  refine VO.mv ?_
  refine VO.y rfl (.gtr rfl rfl) ?_
  refine VO.mv ?_
  refine VO.dec (t := 11) rfl (fun hc7 => ?_) (fun hc7 => ?_)
  · -- T
    refine VO.gy rfl ⟨_, rfl, rfl⟩ (.mv rfl) ?_
    refine VO.gy rfl ⟨_, rfl, rfl⟩ (.nilp rfl) ?_
    refine VO.gy rfl ⟨_, rfl, rfl⟩ (.fa rfl tst79 rfl) ?_
    refine VO.gy rfl ⟨_, rfl, rfl⟩ (.ld1 1 rfl tk4 rfl (cellsAt_one rfl rfl)) ?_
    refine VO.gy rfl ⟨_, rfl, rfl⟩ (.not rfl) ?_
    refine VO.y rfl (.pT rfl rfl) ?_
    refine VO.k5 0 2 3 4 17 ?_
    refine VC.condBN rfl (fun hc8 => ?_) (fun hc8 => ?_)
    · -- TT
      refine VC.skip ?_
      refine outN ?_
      refine VC.seq ?_
      refine VC.block ?_
      refine VC.rs ?_
      refine VO.mv ?_
      refine VO.mv ?_
      refine VO.call 1 rfl fnOk52 rfl rfl (fun W hW => rSmall_ok W (d0 := (d0.1, at_, bad)) (hW.at (i := 1) rfl) (Rd.mono h0_0 (hW.out (i := 1) (j := 0) rfl rfl)) bdk 65536 bdk (by first | assumption | exact ⟨by omega, by omega⟩ | exact ⟨by (simp; done), by (simp; done)⟩)) (fun v9 m9 hv9 => ?_)
      try dsimp only at hv9
      obtain ⟨rfl, rfl, w9_0_1⟩ := hv9
      have hfa10 := (rNum_ok (B := d0.1) (m := 65536) (s := (at_, bad)) (by first | assumption | exact ⟨by omega, by omega⟩ | exact ⟨by (simp; done), by (simp; done)⟩) (by omega)).1
      have hfa11 := (rNum_ok (B := d0.1) (m := 65536) (s := (at_, bad)) (by first | assumption | exact ⟨by omega, by omega⟩ | exact ⟨by (simp; done), by (simp; done)⟩) (by omega)).1.1
      have hfa12 := (rNum_ok (B := d0.1) (m := 65536) (s := (at_, bad)) (by first | assumption | exact ⟨by omega, by omega⟩ | exact ⟨by (simp; done), by (simp; done)⟩) (by omega)).1.2
      have hfa13 := (rNum_ok (B := d0.1) (m := 65536) (s := (at_, bad)) (by first | assumption | exact ⟨by omega, by omega⟩ | exact ⟨by (simp; done), by (simp; done)⟩) (by omega)).2
      simp only [inK] at w9_0_1
      refine VO.call 1 rfl fnOk82 rfl rfl (fun W hW => rBytes_ok_ W (d0 := (d0.1, (rNum d0.1 65536 (at_, bad)).2)) (hW.at (i := 1) rfl) (Rd.mono h0_0 (hW.out (i := 1) (j := 0) rfl rfl)) bdk ((rNum d0.1 65536 (at_, bad)).1) bdk (by first | assumption | exact ⟨by omega, by omega⟩ | exact ⟨by (simp; done), by (simp; done)⟩) bd bd) (fun v14 m14 hv14 => ?_)
      try dsimp only at hv14
      obtain ⟨s14_0, p14_0, rfl, hS14, f14_0, w14_0_1⟩ := hv14
      refine VO.inv _ (fun _ h => h.parts (i := 1) rfl hS14 [115, 116]) ?_
      have hfa17 := (rBytes_ok (B := d0.1) (n := ((rNum d0.1 65536 (at_, bad)).1)) (s := ((rNum d0.1 65536 (at_, bad)).2)) (by first | assumption | exact ⟨by omega, by omega⟩ | exact ⟨by (simp; done), by (simp; done)⟩) (by omega)).1
      have hfa18 := (rBytes_ok (B := d0.1) (n := ((rNum d0.1 65536 (at_, bad)).1)) (s := ((rNum d0.1 65536 (at_, bad)).2)) (by first | assumption | exact ⟨by omega, by omega⟩ | exact ⟨by (simp; done), by (simp; done)⟩) (by omega)).1.1
      have hfa19 := (rBytes_ok (B := d0.1) (n := ((rNum d0.1 65536 (at_, bad)).1)) (s := ((rNum d0.1 65536 (at_, bad)).2)) (by first | assumption | exact ⟨by omega, by omega⟩ | exact ⟨by (simp; done), by (simp; done)⟩) (by omega)).1.2
      have hfa20 := (rBytes_ok (B := d0.1) (n := ((rNum d0.1 65536 (at_, bad)).1)) (s := ((rNum d0.1 65536 (at_, bad)).2)) (by first | assumption | exact ⟨by omega, by omega⟩ | exact ⟨by (simp; done), by (simp; done)⟩) (by omega)).2
      simp only [inK] at w14_0_1
      obtain ⟨A14_0, c14_0, eq14_0, l14_0, k14_0⟩ := f14_0.slice
      subst eq14_0
      simp only [maxLen] at k14_0
      refine VO.callN 121 rfl fnOk81 rfl (fun W hW => c4Decode_ok W (OwnL.rd (Ow.ownl f14_0 rfl mnil) (hW.at (i := 115) rfl) (mle_nil _))) (fun v21 m21 hv21 => ?_)
      obtain ⟨s21_0, rfl, f21_0⟩ := hv21
      have hfa22 := cDecode_fits ((rBytes d0.1 ((rNum d0.1 65536 (at_, bad)).1) ((rNum d0.1 65536 (at_, bad)).2)).1)
      obtain ⟨q21_0_A2, q21_0_c2, q21_0_n2, rfl, q21_0_S, q21_0_0, q21_0_1, q21_0_2⟩ := openO_Commit (x0 := ((cDecode ((rBytes d0.1 ((rNum d0.1 65536 (at_, bad)).1) ((rNum d0.1 65536 (at_, bad)).2)).1)).1).1) (x1 := ((cDecode ((rBytes d0.1 ((rNum d0.1 65536 (at_, bad)).1) ((rNum d0.1 65536 (at_, bad)).2)).1)).1).2.1) (x2 := ((cDecode ((rBytes d0.1 ((rNum d0.1 65536 (at_, bad)).1) ((rNum d0.1 65536 (at_, bad)).2)).1)).1).2.2) f21_0
      simp only [inK] at q21_0_0
      simp only [inK] at q21_0_1
      have q21_0_r2 := Rd.room (q21_0_2.rd (mle_refl _))
      refine VO.inv _ (fun _ h => h.parts (i := 121) rfl q21_0_S [123]) ?_
      refine VO.mv ?_
      refine VO.y rfl (.ext rfl rfl) ?_
      refine VO.y rfl (.ext rfl rfl) ?_
      refine VO.alloc 125 rfl tz43 (fun g24 => ?_)
      refine VO.store (k := 3) (c' := [Value.int .i64 (((cDecode ((rBytes d0.1 ((rNum d0.1 65536 (at_, bad)).1) ((rNum d0.1 65536 (at_, bad)).2)).1)).1).1), Value.int .i64 (((cDecode ((rBytes d0.1 ((rNum d0.1 65536 (at_, bad)).1) ((rNum d0.1 65536 (at_, bad)).2)).1)).1).2.1), Value.slice q21_0_A2 ((((cDecode ((rBytes d0.1 ((rNum d0.1 65536 (at_, bad)).1) ((rNum d0.1 65536 (at_, bad)).2)).1)).1).2.2).length) (q21_0_c2)]) 125 rfl rfl (.inl tk43) rfl rfl rfl rfl rfl ?_
      refine VO.as ?_
      refine VO.k7 0 2 3 4 5 6 17 ?_
      refine VC.seq ?_
      refine VC.rs ?_
      refine VO.mv ?_
      refine VO.y rfl (.neq rfl rfl) ?_
      refine VO.keep [125, 123, 116, 106, 0] [(125, mone g24 (.cells [Value.int .i64 (((cDecode ((rBytes d0.1 ((rNum d0.1 65536 (at_, bad)).1) ((rNum d0.1 65536 (at_, bad)).2)).1)).1).1), Value.int .i64 (((cDecode ((rBytes d0.1 ((rNum d0.1 65536 (at_, bad)).1) ((rNum d0.1 65536 (at_, bad)).2)).1)).1).2.1), Value.slice q21_0_A2 ((((cDecode ((rBytes d0.1 ((rNum d0.1 65536 (at_, bad)).1) ((rNum d0.1 65536 (at_, bad)).2)).1)).1).2.2).length) (q21_0_c2)].toArray 43 (0, 0))), (123, q21_0_n2), (116, mone g0 (.cells [Value.slice A0_0 (d0.1.length) (c0_0), Value.int .i64 ((rBytes d0.1 ((rNum d0.1 65536 (at_, bad)).1) ((rNum d0.1 65536 (at_, bad)).2)).2.1), Value.bool ((rBytes d0.1 ((rNum d0.1 65536 (at_, bad)).1) ((rNum d0.1 65536 (at_, bad)).2)).2.2)].toArray E0 (0, 0))), (106, cs_m), (0, mout (wm W) (mone g0 (.cells [Value.slice A0_0 (d0.1.length) (c0_0), Value.int .i64 (d0.2.1), Value.bool d0.2.2].toArray E0 (0, 0))))] (by kernel_rfl) ?_
      refine VO.k8 0 2 3 4 5 6 17 29 ?_
      refine VC.cond rfl (fun hc26 => ?_) (fun hc26 => ?_)
      · -- TTT
        refine VC.reg ?_
        refine VO.mv ?_
        refine VO.y rfl (.nilp rfl) ?_
        refine VO.y rfl (.fa rfl tst79 rfl) ?_
        refine VO.store (k := 1) (c' := [Value.slice A0_0 (d0.1.length) (c0_0), Value.int .i64 ((rBytes d0.1 ((rNum d0.1 65536 (at_, bad)).1) ((rNum d0.1 65536 (at_, bad)).2)).2.1), Value.bool true]) 116 rfl rfl (.inr ⟨tk4, rfl⟩) rfl rfl rfl rfl rfl ?_
        refine VO.k8 0 2 3 4 5 6 17 29 ?_
        refine outN ?_
        refine VC.reg ?_
        refine VO.mv ?_
        refine VO.y rfl (.ldA 125 rfl tk43 rfl (cellsAt_one rfl rfl)) ?_
        refine VO.bsl (cs := [Value.int .i64 (((cDecode ((rBytes d0.1 ((rNum d0.1 65536 (at_, bad)).1) ((rNum d0.1 65536 (at_, bad)).2)).1)).1).1), Value.int .i64 (((cDecode ((rBytes d0.1 ((rNum d0.1 65536 (at_, bad)).1) ((rNum d0.1 65536 (at_, bad)).2)).1)).1).2.1), Value.slice q21_0_A2 ((((cDecode ((rBytes d0.1 ((rNum d0.1 65536 (at_, bad)).1) ((rNum d0.1 65536 (at_, bad)).2)).1)).1).2.2).length) (q21_0_c2)]) 128 rfl rfl tsl24 tz43 rfl rfl (fun g27 => ?_)
        refine VO.appO (e := TCommit) 106 123 128 rfl rfl rfl tsl24 tz43 rfl rfl rfl rfl h_cs (show Ow TCommit _ _ ((cDecode ((rBytes d0.1 ((rNum d0.1 65536 (at_, bad)).1) ((rNum d0.1 65536 (at_, bad)).2)).1)).1) from (mkO_Commit (((cDecode ((rBytes d0.1 ((rNum d0.1 65536 (at_, bad)).1) ((rNum d0.1 65536 (at_, bad)).2)).1)).1).1) (((cDecode ((rBytes d0.1 ((rNum d0.1 65536 (at_, bad)).1) ((rNum d0.1 65536 (at_, bad)).2)).1)).1).2.1) (((cDecode ((rBytes d0.1 ((rNum d0.1 65536 (at_, bad)).1) ((rNum d0.1 65536 (at_, bad)).2)).1)).1).2.2) (Seps.one (mle_refl _)) bdk bdk (OwnL.ow (Ow.ownl q21_0_2 rfl mnil) rfl))) Try.underlying24 (cellsAt_one rfl rfl) bdm bd (by decide) (fun v29 m29 ho29 => ?_)
        obtain ⟨A29, c29, rfl, l29, k29⟩ := ho29.slice
        simp only [maxLen] at k29
        refine VO.as ?_
        refine VO.k8 0 2 3 4 5 6 17 29 ?_
        refine outBN ?_
        refine outN ?_
        refine VC.reg ?_
        refine VO.mv ?_
        refine VO.y rfl (.sub rfl rfl rfl ⟨bd, bd⟩) ?_
        refine VO.as ?_
        refine VO.keep [106, 125, 116, 0] [(106, m29), (125, mone g24 (.cells [Value.int .i64 (((cDecode ((rBytes d0.1 ((rNum d0.1 65536 (at_, bad)).1) ((rNum d0.1 65536 (at_, bad)).2)).1)).1).1), Value.int .i64 (((cDecode ((rBytes d0.1 ((rNum d0.1 65536 (at_, bad)).1) ((rNum d0.1 65536 (at_, bad)).2)).1)).1).2.1), Value.slice q21_0_A2 ((((cDecode ((rBytes d0.1 ((rNum d0.1 65536 (at_, bad)).1) ((rNum d0.1 65536 (at_, bad)).2)).1)).1).2.2).length) (q21_0_c2)].toArray 43 (0, 0))), (116, mone g0 (.cells [Value.slice A0_0 (d0.1.length) (c0_0), Value.int .i64 ((rBytes d0.1 ((rNum d0.1 65536 (at_, bad)).1) ((rNum d0.1 65536 (at_, bad)).2)).2.1), Value.bool true].toArray E0 (0, 0))), (0, mout (wm W) (mone g0 (.cells [Value.slice A0_0 (d0.1.length) (c0_0), Value.int .i64 (d0.2.1), Value.bool d0.2.2].toArray E0 (0, 0))))] (by kernel_rfl) ?_
        refine VO.k8 0 2 3 4 5 6 17 29 ?_
        exact outN ⟨⟨n - 1, cs ++ [((cDecode ((rBytes d0.1 ((rNum d0.1 65536 (at_, bad)).1) ((rNum d0.1 65536 (at_, bad)).2)).1)).1)], A29, c29, m29, (rBytes d0.1 ((rNum d0.1 65536 (at_, bad)).1) ((rNum d0.1 65536 (at_, bad)).2)).2.1, true⟩, ⟨by first | exact comm_next hp (by omega) (by assumption) (rComm_bad (by assumption)) | exact comm_next hp (by omega) (by assumption) (rComm_good (Decidable.not_not.1 (by assumption))), by first | assumption | exact ⟨by omega, by (dsimp only; omega)⟩, by omega, by (simp only [List.length_append, List.length_cons, List.length_nil]; omega), ho29⟩, bd, ⟨⟨rfl, rfl, rfl, rfl, trivial⟩, fun _ h => Inv.sub (Inv.num h 116 1 rfl) [106, 1, 0]⟩⟩
      · -- TTF
        refine VC.skip ?_
        refine outN ?_
        refine VC.reg ?_
        refine VO.mv ?_
        refine VO.y rfl (.ldA 125 rfl tk43 rfl (cellsAt_one rfl rfl)) ?_
        refine VO.bsl (cs := [Value.int .i64 (((cDecode ((rBytes d0.1 ((rNum d0.1 65536 (at_, bad)).1) ((rNum d0.1 65536 (at_, bad)).2)).1)).1).1), Value.int .i64 (((cDecode ((rBytes d0.1 ((rNum d0.1 65536 (at_, bad)).1) ((rNum d0.1 65536 (at_, bad)).2)).1)).1).2.1), Value.slice q21_0_A2 ((((cDecode ((rBytes d0.1 ((rNum d0.1 65536 (at_, bad)).1) ((rNum d0.1 65536 (at_, bad)).2)).1)).1).2.2).length) (q21_0_c2)]) 131 rfl rfl tsl24 tz43 rfl rfl (fun g30 => ?_)
        refine VO.appO (e := TCommit) 106 123 131 rfl rfl rfl tsl24 tz43 rfl rfl rfl rfl h_cs (show Ow TCommit _ _ ((cDecode ((rBytes d0.1 ((rNum d0.1 65536 (at_, bad)).1) ((rNum d0.1 65536 (at_, bad)).2)).1)).1) from (mkO_Commit (((cDecode ((rBytes d0.1 ((rNum d0.1 65536 (at_, bad)).1) ((rNum d0.1 65536 (at_, bad)).2)).1)).1).1) (((cDecode ((rBytes d0.1 ((rNum d0.1 65536 (at_, bad)).1) ((rNum d0.1 65536 (at_, bad)).2)).1)).1).2.1) (((cDecode ((rBytes d0.1 ((rNum d0.1 65536 (at_, bad)).1) ((rNum d0.1 65536 (at_, bad)).2)).1)).1).2.2) (Seps.one (mle_refl _)) bdk bdk (OwnL.ow (Ow.ownl q21_0_2 rfl mnil) rfl))) Try.underlying24 (cellsAt_one rfl rfl) bdm bd (by decide) (fun v32 m32 ho32 => ?_)
        obtain ⟨A32, c32, rfl, l32, k32⟩ := ho32.slice
        simp only [maxLen] at k32
        refine VO.as ?_
        refine VO.k8 0 2 3 4 5 6 17 29 ?_
        refine outBN ?_
        refine outN ?_
        refine VC.reg ?_
        refine VO.mv ?_
        refine VO.y rfl (.sub rfl rfl rfl ⟨bd, bd⟩) ?_
        refine VO.as ?_
        refine VO.k8 0 2 3 4 5 6 17 29 ?_
        exact outN ⟨⟨n - 1, cs ++ [((cDecode ((rBytes d0.1 ((rNum d0.1 65536 (at_, bad)).1) ((rNum d0.1 65536 (at_, bad)).2)).1)).1)], A32, c32, m32, (rBytes d0.1 ((rNum d0.1 65536 (at_, bad)).1) ((rNum d0.1 65536 (at_, bad)).2)).2.1, (rBytes d0.1 ((rNum d0.1 65536 (at_, bad)).1) ((rNum d0.1 65536 (at_, bad)).2)).2.2⟩, ⟨by first | exact comm_next hp (by omega) (by assumption) (rComm_bad (by assumption)) | exact comm_next hp (by omega) (by assumption) (rComm_good (Decidable.not_not.1 (by assumption))), by first | assumption | exact ⟨by omega, by (dsimp only; omega)⟩, by omega, by (simp only [List.length_append, List.length_cons, List.length_nil]; omega), ho32⟩, bd, ⟨⟨rfl, rfl, rfl, rfl, trivial⟩, fun _ h => Inv.sub (Inv.num h 116 1 rfl) [106, 1, 0]⟩⟩
    · -- TF
      refine VC.exit ?_
      refine outE ?_
      refine outE ?_
      refine outBB ?_
      refine outN ?_
      refine VC.rs ?_
      refine VO.mv ?_
      refine VO.as ?_
      refine VO.k5 0 2 3 4 17 ?_
      refine VC.ret ?_
      refine ⟨_, _, res_run (rs := [.tmp 2]) rfl (.tmp rfl .nil), fun W_ hI => out_of (l := [cs_m, mone g0 (.cells [Value.slice A0_0 (d0.1.length) (c0_0), Value.int .i64 (at_), Value.bool bad].toArray E0 (0, 0))]) hI [106, 1] rfl rfl (mle_refl _) (fun hS_ => ?_)⟩
      dsimp only [packV]
      have he0 : ((rComms d0.1 d0.2).1 : Ty.Den (.sl TCommit)) = cs := by first | rfl | (first | (rw [rComms_fin hp (by first | exact .inl (by omega) | exact .inr (by assumption))] <;> rfl))
      have hm0_1 : ((rComms d0.1 d0.2).2.1 : Int) = at_ := by first | rfl | (first | (rw [rComms_fin hp (by first | exact .inl (by omega) | exact .inr (by assumption))] <;> rfl))
      have hm0_2 : ((rComms d0.1 d0.2).2.2 : Bool) = bad := by first | rfl | (first | (rw [rComms_fin hp (by first | exact .inl (by omega) | exact .inr (by assumption))] <;> rfl))
      refine ⟨Value.slice cs_A (cs.length) (cs_c), muns [cs_m], ?_, ?_, ?_, ?_⟩
      rotate_left
      · (first | exact Seps.grp (ls := [[cs_m], [mone g0 (.cells [Value.slice A0_0 (d0.1.length) (c0_0), Value.int .i64 (at_), Value.bool bad].toArray E0 (0, 0))]]) hS_ | (rw [hm0_1, hm0_2]; exact Seps.grpM (ls := [[cs_m], [mone g0 (.cells [Value.slice A0_0 (d0.1.length) (c0_0), Value.int .i64 (at_), Value.bool bad].toArray E0 (0, 0))]]) hS_ (by simp only [List.map, muns_one])) | exact Seps.grpM (ls := [[cs_m], [mone g0 (.cells [Value.slice A0_0 (d0.1.length) (c0_0), Value.int .i64 (at_), Value.bool bad].toArray E0 (0, 0))]]) hS_ (by simp only [List.map, muns_one]))
      · rw [he0]; exact (Ow.up h_cs ((Seps.self hS_ (List.Sublist.cons_cons _ (List.Sublist.cons _ List.Sublist.slnil))).1 _ (.head _)))
      · rw [hm0_1]; exact (show inK .i64 _ by simp only [inK]; (first | omega | (simp only [List.length_append, List.length_nil, List.length_cons, List.length_take, List.length_drop] at *; omega)))
      all_goals (first | rfl | (simp [*]; done))
  · -- F
    refine VO.gN ?_
    refine VO.gN ?_
    refine VO.gN ?_
    refine VO.gN ?_
    refine VO.gN ?_
    refine VO.y rfl (.pF rfl rfl) ?_
    refine VO.k5 0 2 3 4 17 ?_
    refine VC.condF rfl ?_
    refine VC.exit ?_
    refine outE ?_
    refine outE ?_
    refine outBB ?_
    refine outN ?_
    refine VC.rs ?_
    refine VO.mv ?_
    refine VO.as ?_
    refine VO.k5 0 2 3 4 17 ?_
    refine VC.ret ?_
    refine ⟨_, _, res_run (rs := [.tmp 2]) rfl (.tmp rfl .nil), fun W_ hI => out_of (l := [cs_m, mone g0 (.cells [Value.slice A0_0 (d0.1.length) (c0_0), Value.int .i64 (at_), Value.bool bad].toArray E0 (0, 0))]) hI [106, 1] rfl rfl (mle_refl _) (fun hS_ => ?_)⟩
    dsimp only [packV]
    have he0 : ((rComms d0.1 d0.2).1 : Ty.Den (.sl TCommit)) = cs := by first | rfl | (first | (rw [rComms_fin hp (by first | exact .inl (by omega) | exact .inr (by assumption))] <;> rfl))
    have hm0_1 : ((rComms d0.1 d0.2).2.1 : Int) = at_ := by first | rfl | (first | (rw [rComms_fin hp (by first | exact .inl (by omega) | exact .inr (by assumption))] <;> rfl))
    have hm0_2 : ((rComms d0.1 d0.2).2.2 : Bool) = bad := by first | rfl | (first | (rw [rComms_fin hp (by first | exact .inl (by omega) | exact .inr (by assumption))] <;> rfl))
    refine ⟨Value.slice cs_A (cs.length) (cs_c), muns [cs_m], ?_, ?_, ?_, ?_⟩
    rotate_left
    · (first | exact Seps.grp (ls := [[cs_m], [mone g0 (.cells [Value.slice A0_0 (d0.1.length) (c0_0), Value.int .i64 (at_), Value.bool bad].toArray E0 (0, 0))]]) hS_ | (rw [hm0_1, hm0_2]; exact Seps.grpM (ls := [[cs_m], [mone g0 (.cells [Value.slice A0_0 (d0.1.length) (c0_0), Value.int .i64 (at_), Value.bool bad].toArray E0 (0, 0))]]) hS_ (by simp only [List.map, muns_one])) | exact Seps.grpM (ls := [[cs_m], [mone g0 (.cells [Value.slice A0_0 (d0.1.length) (c0_0), Value.int .i64 (at_), Value.bool bad].toArray E0 (0, 0))]]) hS_ (by simp only [List.map, muns_one]))
    · rw [he0]; exact (Ow.up h_cs ((Seps.self hS_ (List.Sublist.cons_cons _ (List.Sublist.cons _ List.Sublist.slnil))).1 _ (.head _)))
    · rw [hm0_1]; exact (show inK .i64 _ by simp only [inK]; (first | omega | (simp only [List.length_append, List.length_nil, List.length_cons, List.length_take, List.length_drop] at *; omega)))
    all_goals (first | rfl | (simp [*]; done))
abbrev my1 (d0 : Bytes) := rNum d0 3 (0, false)
abbrev my2 (d0 : Bytes) := rNum d0 1048576 (my1 d0).2
abbrev my3 (d0 : Bytes) := rNum d0 3 (my2 d0).2
abbrev my4 (d0 : Bytes) := rNum d0 1048576 (my3 d0).2
abbrev my5 (d0 : Bytes) := rNum d0 1048576 (my4 d0).2
theorem my1_ok {d0 : Bytes} (h : rOk d0 ((0 : Int), false)) : rOk d0 (my1 d0).2 ∧ 0 ≤ (my1 d0).1 ∧ (my1 d0).1 < 9223372036854775808 ∧ (0 ≤ (3 : Int) → (my1 d0).1 ≤ 3) ∧ ((0 : Int), false).1 ≤ (my1 d0).2.1 := rNum_ok h (by omega)
theorem fin0_lDec11_ok {P : Prop} (h : P := by rw [lDec_ref (by omega)]; first | (rw [lDecG_no2 (lRun_h (R := rComm d0) (by assumption) (starts_fin hp (by first | exact .inl (by omega) | exact .inr (by assumption)))) (by assumption)] <;> rfl) | (rw [lDecG_no3 (lRun_h (R := rComm d0) (by assumption) (starts_fin hp (by first | exact .inl (by omega) | exact .inr (by assumption)))) (by assumption)] <;> rfl) | (rw [lDecG_yes2 (lRun_h (R := rComm d0) (by assumption) (starts_fin hp (by first | exact .inl (by omega) | exact .inr (by assumption)))) (by assumption) (by assumption)] <;> rfl) | (rw [lDecG_no2 (lRun_c (by assumption) (by assumption)) (by assumption)] <;> rfl) | (rw [lDecG_no3 (lRun_c (by assumption) (by assumption)) (by assumption)] <;> rfl) | (rw [lDecG_yes2 (lRun_c (by assumption) (by assumption)) (by assumption) (by assumption)] <;> rfl) | (rw [lDecG_no2 (lRun_a' (R := rComm d0) (by assumption) (by assumption)) (by assumption)] <;> rfl) | (rw [lDecG_no3 (lRun_a' (R := rComm d0) (by assumption) (by assumption)) (by assumption)] <;> rfl) | (rw [lDecG_yes2 (lRun_a' (R := rComm d0) (by assumption) (by assumption)) (by assumption) (by assumption)] <;> rfl)) : P := h
set_option maxHeartbeats 8000000 in
theorem lDec11_ok (W : World) {v0 : Value} {d0 : List UInt8} (h0 : Rd (.sl .byte) (wm W) [v0] d0) : CallR Try.prog 22 [v0] W (mnil) (fun v m' => ∃ (s0 : List Value), v = .tuple #[.agg s0.toArray, .int .i64 ((lDec d0).2)] ∧ Ow TMessage m' s0 ((lDec d0).1)) := by
  obtain ⟨A0, c0, rfl, l0, k0⟩ := h0.slice
  simp only [maxLen] at k0
  refine CallR.ofA (n := 73) Try.func22 rfl rfl rfl ?_
  refine VC.rs ?_
  refine VO.alloc 102 rfl tz26 (fun g1 => ?_)
  refine VO.as ?_
  refine VO.k3 0 2 3 ?_
  refine VC.rs ?_
  refine VO.mv ?_
  refine VO.y rfl (.bst (cs := [Value.slice A0 (d0.length) (c0), Value.int .i64 (0), Value.bool false]) rfl tst79 tz79 rfl) ?_
  refine VO.box (cs := [Value.slice A0 (d0.length) (c0), Value.int .i64 (0), Value.bool false]) 104 rfl rfl rfl (fun g3 => ?_)
  refine VO.as ?_
  refine VO.k4 0 2 3 4 ?_
  refine VC.rs ?_
  refine VO.mv ?_
  refine VO.call 104 rfl fnOk52 rfl rfl (fun W hW => rSmall_ok W (d0 := (d0, 0, false)) (hW.at (i := 104) rfl) (Rd.mono h0 (hW.out (i := 104) (j := 0) rfl rfl)) bdk 3 bdk (by first | assumption | exact ⟨by omega, by omega⟩ | exact ⟨by (simp; done), by (simp; done)⟩)) (fun v5 m5 hv5 => ?_)
  try dsimp only at hv5
  obtain ⟨rfl, rfl, w5_0_1⟩ := hv5
  have hfa6 := (my1_ok (d0 := d0) (by first | assumption | exact ⟨by omega, by omega⟩ | exact ⟨by (simp; done), by (simp; done)⟩)).1
  have hfa7 := (my1_ok (d0 := d0) (by first | assumption | exact ⟨by omega, by omega⟩ | exact ⟨by (simp; done), by (simp; done)⟩)).1.1
  have hfa8 := (my1_ok (d0 := d0) (by first | assumption | exact ⟨by omega, by omega⟩ | exact ⟨by (simp; done), by (simp; done)⟩)).1.2
  have hfa9 := (my1_ok (d0 := d0) (by first | assumption | exact ⟨by omega, by omega⟩ | exact ⟨by (simp; done), by (simp; done)⟩)).2
  simp only [inK] at w5_0_1
  refine VO.mv ?_
  refine VO.call 104 rfl fnOk52 rfl rfl (fun W hW => rSmall_ok W (d0 := (d0, (my1 d0).2)) (hW.at (i := 104) rfl) (Rd.mono h0 (hW.out (i := 104) (j := 0) rfl rfl)) bdk 1048576 bdk (by first | assumption | exact ⟨by omega, by omega⟩ | exact ⟨by (simp; done), by (simp; done)⟩)) (fun v10 m10 hv10 => ?_)
  try dsimp only at hv10
  obtain ⟨rfl, rfl, w10_0_1⟩ := hv10
  have hfa11 := (rNum_ok (B := d0) (m := 1048576) (s := ((my1 d0).2)) (by first | assumption | exact ⟨by omega, by omega⟩ | exact ⟨by (simp; done), by (simp; done)⟩) (by omega)).1
  have hfa12 := (rNum_ok (B := d0) (m := 1048576) (s := ((my1 d0).2)) (by first | assumption | exact ⟨by omega, by omega⟩ | exact ⟨by (simp; done), by (simp; done)⟩) (by omega)).1.1
  have hfa13 := (rNum_ok (B := d0) (m := 1048576) (s := ((my1 d0).2)) (by first | assumption | exact ⟨by omega, by omega⟩ | exact ⟨by (simp; done), by (simp; done)⟩) (by omega)).1.2
  have hfa14 := (rNum_ok (B := d0) (m := 1048576) (s := ((my1 d0).2)) (by first | assumption | exact ⟨by omega, by omega⟩ | exact ⟨by (simp; done), by (simp; done)⟩) (by omega)).2
  simp only [inK] at w10_0_1
  refine VO.y rfl (.bst (cs := [Value.int .i64 ((my1 d0).1), Value.int .i64 ((rNum d0 1048576 ((my1 d0).2)).1), Value.int .u8 (0), Value.int .i64 (0), Value.slice none (0) (0), Value.int .i64 (0), Value.int .i64 (0), Value.slice none (0) (0)]) rfl tst26 tz26 rfl) ?_
  refine VO.alloc 116 rfl tz26 (fun g15 => ?_)
  refine VO.store (k := 8) (c' := [Value.int .i64 ((my1 d0).1), Value.int .i64 ((rNum d0 1048576 ((my1 d0).2)).1), Value.int .u8 (0), Value.int .i64 (0), Value.slice none (0) (0), Value.int .i64 (0), Value.int .i64 (0), Value.slice none (0) (0)]) 116 rfl rfl (.inl tk26) rfl rfl rfl rfl rfl ?_
  refine VO.keep [116, 104, 102, 0] [(116, mone g15 (.cells [Value.int .i64 ((my1 d0).1), Value.int .i64 ((rNum d0 1048576 ((my1 d0).2)).1), Value.int .u8 (0), Value.int .i64 (0), Value.slice none (0) (0), Value.int .i64 (0), Value.int .i64 (0), Value.slice none (0) (0)].toArray 26 (0, 0))), (104, mone g3 (.cells [Value.slice A0 (d0.length) (c0), Value.int .i64 ((rNum d0 1048576 ((my1 d0).2)).2.1), Value.bool ((rNum d0 1048576 ((my1 d0).2)).2.2)].toArray 79 (0, 0))), (102, mone g1 (.cells [Value.int .i64 (0), Value.int .i64 (0), Value.int .u8 (0), Value.int .i64 (0), Value.slice none (0) (0), Value.int .i64 (0), Value.int .i64 (0), Value.slice none (0) (0)].toArray 26 (0, 0))), (0, wm W)] (by kernel_rfl) ?_
  refine VO.k5 0 2 3 4 5 ?_
  refine VC.seq ?_
  refine VC.rs ?_
  refine VO.y rfl (.fa rfl tst26 rfl) ?_
  refine VO.y rfl (.ld1 116 rfl tk3 rfl (cellsAt_one rfl rfl)) ?_
  refine VO.k6 0 2 3 4 5 16 ?_
  refine VC.block ?_
  refine VC.rs ?_
  refine VO.y rfl (.eql rfl rfl) ?_
  refine VO.as ?_
  refine VO.k7 0 2 3 4 5 16 20 ?_
  refine VC.cond rfl (fun hc17 => ?_) (fun hc17 => ?_)
  · -- T
    refine VC.rs ?_
    refine VO.mv ?_
    refine VO.call 104 rfl fnOk52 rfl rfl (fun W hW => rSmall_ok W (d0 := (d0, (rNum d0 1048576 ((my1 d0).2)).2)) (hW.at (i := 104) rfl) (Rd.mono h0 (hW.out (i := 104) (j := 0) rfl rfl)) bdk 3 bdk (by first | assumption | exact ⟨by omega, by omega⟩ | exact ⟨by (simp; done), by (simp; done)⟩)) (fun v18 m18 hv18 => ?_)
    try dsimp only at hv18
    obtain ⟨rfl, rfl, w18_0_1⟩ := hv18
    have hfa19 := (rNum_ok (B := d0) (m := 3) (s := ((rNum d0 1048576 ((my1 d0).2)).2)) (by first | assumption | exact ⟨by omega, by omega⟩ | exact ⟨by (simp; done), by (simp; done)⟩) (by omega)).1
    have hfa20 := (rNum_ok (B := d0) (m := 3) (s := ((rNum d0 1048576 ((my1 d0).2)).2)) (by first | assumption | exact ⟨by omega, by omega⟩ | exact ⟨by (simp; done), by (simp; done)⟩) (by omega)).1.1
    have hfa21 := (rNum_ok (B := d0) (m := 3) (s := ((rNum d0 1048576 ((my1 d0).2)).2)) (by first | assumption | exact ⟨by omega, by omega⟩ | exact ⟨by (simp; done), by (simp; done)⟩) (by omega)).1.2
    have hfa22 := (rNum_ok (B := d0) (m := 3) (s := ((rNum d0 1048576 ((my1 d0).2)).2)) (by first | assumption | exact ⟨by omega, by omega⟩ | exact ⟨by (simp; done), by (simp; done)⟩) (by omega)).2
    simp only [inK] at w18_0_1
    refine VO.y rfl (.cvI (a := (rNum d0 3 ((rNum d0 1048576 ((my1 d0).2)).2)).1) (c := (rNum d0 3 ((rNum d0 1048576 ((my1 d0).2)).2)).1) rfl ⟨_, Try.underlying3⟩ Try.underlying22 (IntWalk.u8_in _ bd)) ?_
    refine VO.y rfl (.fa rfl tst26 rfl) ?_
    refine VO.store (k := 1) (c' := [Value.int .i64 ((my1 d0).1), Value.int .i64 ((rNum d0 1048576 ((my1 d0).2)).1), Value.int .u8 ((rNum d0 3 ((rNum d0 1048576 ((my1 d0).2)).2)).1), Value.int .i64 (0), Value.slice none (0) (0), Value.int .i64 (0), Value.int .i64 (0), Value.slice none (0) (0)]) 116 rfl rfl (.inr ⟨tk22, rfl⟩) rfl rfl rfl rfl rfl ?_
    refine VO.keep [104, 116, 102, 0] [(104, mone g3 (.cells [Value.slice A0 (d0.length) (c0), Value.int .i64 ((rNum d0 3 ((rNum d0 1048576 ((my1 d0).2)).2)).2.1), Value.bool ((rNum d0 3 ((rNum d0 1048576 ((my1 d0).2)).2)).2.2)].toArray 79 (0, 0))), (116, mone g15 (.cells [Value.int .i64 ((my1 d0).1), Value.int .i64 ((rNum d0 1048576 ((my1 d0).2)).1), Value.int .u8 ((rNum d0 3 ((rNum d0 1048576 ((my1 d0).2)).2)).1), Value.int .i64 (0), Value.slice none (0) (0), Value.int .i64 (0), Value.int .i64 (0), Value.slice none (0) (0)].toArray 26 (0, 0))), (102, mone g1 (.cells [Value.int .i64 (0), Value.int .i64 (0), Value.int .u8 (0), Value.int .i64 (0), Value.slice none (0) (0), Value.int .i64 (0), Value.int .i64 (0), Value.slice none (0) (0)].toArray 26 (0, 0))), (0, wm W)] (by kernel_rfl) ?_
    refine VO.k7 0 2 3 4 5 16 20 ?_
    refine VC.rs ?_
    refine VO.mv ?_
    refine VO.call 104 rfl fnOk52 rfl rfl (fun W hW => rSmall_ok W (d0 := (d0, (rNum d0 3 ((rNum d0 1048576 ((my1 d0).2)).2)).2)) (hW.at (i := 104) rfl) (Rd.mono h0 (hW.out (i := 104) (j := 0) rfl rfl)) bdk 1048576 bdk (by first | assumption | exact ⟨by omega, by omega⟩ | exact ⟨by (simp; done), by (simp; done)⟩)) (fun v23 m23 hv23 => ?_)
    try dsimp only at hv23
    obtain ⟨rfl, rfl, w23_0_1⟩ := hv23
    have hfa24 := (rNum_ok (B := d0) (m := 1048576) (s := ((rNum d0 3 ((rNum d0 1048576 ((my1 d0).2)).2)).2)) (by first | assumption | exact ⟨by omega, by omega⟩ | exact ⟨by (simp; done), by (simp; done)⟩) (by omega)).1
    have hfa25 := (rNum_ok (B := d0) (m := 1048576) (s := ((rNum d0 3 ((rNum d0 1048576 ((my1 d0).2)).2)).2)) (by first | assumption | exact ⟨by omega, by omega⟩ | exact ⟨by (simp; done), by (simp; done)⟩) (by omega)).1.1
    have hfa26 := (rNum_ok (B := d0) (m := 1048576) (s := ((rNum d0 3 ((rNum d0 1048576 ((my1 d0).2)).2)).2)) (by first | assumption | exact ⟨by omega, by omega⟩ | exact ⟨by (simp; done), by (simp; done)⟩) (by omega)).1.2
    have hfa27 := (rNum_ok (B := d0) (m := 1048576) (s := ((rNum d0 3 ((rNum d0 1048576 ((my1 d0).2)).2)).2)) (by first | assumption | exact ⟨by omega, by omega⟩ | exact ⟨by (simp; done), by (simp; done)⟩) (by omega)).2
    simp only [inK] at w23_0_1
    refine VO.y rfl (.fa rfl tst26 rfl) ?_
    refine VO.store (k := 1) (c' := [Value.int .i64 ((my1 d0).1), Value.int .i64 ((rNum d0 1048576 ((my1 d0).2)).1), Value.int .u8 ((rNum d0 3 ((rNum d0 1048576 ((my1 d0).2)).2)).1), Value.int .i64 ((rNum d0 1048576 ((rNum d0 3 ((rNum d0 1048576 ((my1 d0).2)).2)).2)).1), Value.slice none (0) (0), Value.int .i64 (0), Value.int .i64 (0), Value.slice none (0) (0)]) 116 rfl rfl (.inr ⟨tk3, rfl⟩) rfl rfl rfl rfl rfl ?_
    refine VO.k7 0 2 3 4 5 16 20 ?_
    refine VC.rs ?_
    refine VO.mv ?_
    refine VO.call 104 rfl fnOk52 rfl rfl (fun W hW => rSmall_ok W (d0 := (d0, (rNum d0 1048576 ((rNum d0 3 ((rNum d0 1048576 ((my1 d0).2)).2)).2)).2)) (hW.at (i := 104) rfl) (Rd.mono h0 (hW.out (i := 104) (j := 0) rfl rfl)) bdk 1048576 bdk (by first | assumption | exact ⟨by omega, by omega⟩ | exact ⟨by (simp; done), by (simp; done)⟩)) (fun v28 m28 hv28 => ?_)
    try dsimp only at hv28
    obtain ⟨rfl, rfl, w28_0_1⟩ := hv28
    have hfa29 := (rNum_ok (B := d0) (m := 1048576) (s := ((rNum d0 1048576 ((rNum d0 3 ((rNum d0 1048576 ((my1 d0).2)).2)).2)).2)) (by first | assumption | exact ⟨by omega, by omega⟩ | exact ⟨by (simp; done), by (simp; done)⟩) (by omega)).1
    have hfa30 := (rNum_ok (B := d0) (m := 1048576) (s := ((rNum d0 1048576 ((rNum d0 3 ((rNum d0 1048576 ((my1 d0).2)).2)).2)).2)) (by first | assumption | exact ⟨by omega, by omega⟩ | exact ⟨by (simp; done), by (simp; done)⟩) (by omega)).1.1
    have hfa31 := (rNum_ok (B := d0) (m := 1048576) (s := ((rNum d0 1048576 ((rNum d0 3 ((rNum d0 1048576 ((my1 d0).2)).2)).2)).2)) (by first | assumption | exact ⟨by omega, by omega⟩ | exact ⟨by (simp; done), by (simp; done)⟩) (by omega)).1.2
    have hfa32 := (rNum_ok (B := d0) (m := 1048576) (s := ((rNum d0 1048576 ((rNum d0 3 ((rNum d0 1048576 ((my1 d0).2)).2)).2)).2)) (by first | assumption | exact ⟨by omega, by omega⟩ | exact ⟨by (simp; done), by (simp; done)⟩) (by omega)).2
    simp only [inK] at w28_0_1
    refine VO.as ?_
    refine VO.k8 0 2 3 4 5 6 16 20 ?_
    refine VC.block ?_
    refine VC.inv ((133, mnil) :: _) (fun _ h => h.nilc 133) ?_
    refine VC.loop (G := Int × (List DStart) × (Option Addr) × Nat × Mem × Int × Bool) (fun g => [(6, Value.int .i64 ((g.1))), (0, Value.slice A0 (d0.length) (c0)), (2, Value.pointer (some ⟨g1, 0, none⟩)), (3, Value.int .i64 (0)), (4, Value.pointer (some ⟨g3, 0, none⟩)), (5, Value.pointer (some ⟨g15, 0, none⟩)), (16, Value.int .i64 ((my1 d0).1)), (20, Value.bool (decide (((my1 d0).1) = 1)))]) (fun g => [(133, (g.2.2.2.2.1)), (104, mone g3 (.cells [Value.slice A0 (d0.length) (c0), Value.int .i64 ((g.2.2.2.2.2.1)), Value.bool (g.2.2.2.2.2.2)].toArray 79 (0, 0))), (116, mone g15 (.cells [Value.int .i64 ((my1 d0).1), Value.int .i64 ((rNum d0 1048576 ((my1 d0).2)).1), Value.int .u8 ((rNum d0 3 ((rNum d0 1048576 ((my1 d0).2)).2)).1), Value.int .i64 ((rNum d0 1048576 ((rNum d0 3 ((rNum d0 1048576 ((my1 d0).2)).2)).2)).1), Value.slice (g.2.2.1) ((g.2.1).length) ((g.2.2.2.1)), Value.int .i64 (0), Value.int .i64 (0), Value.slice none (0) (0)].toArray 26 (0, 0))), (102, mone g1 (.cells [Value.int .i64 (0), Value.int .i64 (0), Value.int .u8 (0), Value.int .i64 (0), Value.slice none (0) (0), Value.int .i64 (0), Value.int .i64 (0), Value.slice none (0) (0)].toArray 26 (0, 0))), (0, wm W)]) (fun g => (pStarts d0 (my5 d0).1.toNat (my5 d0).2 = ((g.2.1) ++ (pStarts d0 (g.1).toNat ((g.2.2.2.2.2.1), (g.2.2.2.2.2.2))).1, (pStarts d0 (g.1).toNat ((g.2.2.2.2.2.1), (g.2.2.2.2.2.2))).2)) ∧ ((g.1) ≤ 1048576) ∧ ((g.2.1).length + (g.1).toNat ≤ 1048576) ∧ (rOk d0 ((g.2.2.2.2.2.1), (g.2.2.2.2.2.2))) ∧ (OwnL TStart (g.2.2.2.2.1) mnil (.slice (g.2.2.1) (g.2.1).length (g.2.2.2.1)) (g.2.1))) (fun g => (g.1).toNat) ((rNum d0 1048576 ((rNum d0 1048576 ((rNum d0 3 ((rNum d0 1048576 ((my1 d0).2)).2)).2)).2)).1, [], none, 0, mnil, (rNum d0 1048576 ((rNum d0 1048576 ((rNum d0 3 ((rNum d0 1048576 ((my1 d0).2)).2)).2)).2)).2.1, (rNum d0 1048576 ((rNum d0 1048576 ((rNum d0 3 ((rNum d0 1048576 ((my1 d0).2)).2)).2)).2)).2.2) (⟨by rfl, by omega, by (simp; omega), by first | assumption | exact ⟨by omega, by (dsimp only; omega)⟩, (OwnL.nil TStart mnil mnil)⟩) ⟨⟨rfl, rfl, rfl, rfl, rfl, rfl, rfl, rfl, trivial⟩, fun _ h => h.sub [133, 104, 116, 102, 0]⟩ ?_
    rintro ⟨n, ss, ss_A, ss_c, ss_m, at_, bad⟩ ⟨hp, hn, hlen, hok, h_ss⟩
    replace hp : pStarts d0 (my5 d0).1.toNat (my5 d0).2 = (ss ++ (pStarts d0 n.toNat (at_, bad)).1, (pStarts d0 n.toNat (at_, bad)).2) := hp
    replace hn : n ≤ 1048576 := hn
    replace hlen : ss.length + n.toNat ≤ 1048576 := hlen
    replace hok : rOk d0 (at_, bad) := hok
    replace h_ss : OwnL TStart ss_m mnil (.slice ss_A ss.length ss_c) ss := h_ss
    show VC _ _ _ _ _ [(6, Value.int .i64 (n)), (0, Value.slice A0 (d0.length) (c0)), (2, Value.pointer (some ⟨g1, 0, none⟩)), (3, Value.int .i64 (0)), (4, Value.pointer (some ⟨g3, 0, none⟩)), (5, Value.pointer (some ⟨g15, 0, none⟩)), (16, Value.int .i64 ((my1 d0).1)), (20, Value.bool (decide (((my1 d0).1) = 1)))] [(133, ss_m), (104, mone g3 (.cells [Value.slice A0 (d0.length) (c0), Value.int .i64 (at_), Value.bool bad].toArray 79 (0, 0))), (116, mone g15 (.cells [Value.int .i64 ((my1 d0).1), Value.int .i64 ((rNum d0 1048576 ((my1 d0).2)).1), Value.int .u8 ((rNum d0 3 ((rNum d0 1048576 ((my1 d0).2)).2)).1), Value.int .i64 ((rNum d0 1048576 ((rNum d0 3 ((rNum d0 1048576 ((my1 d0).2)).2)).2)).1), Value.slice ss_A (ss.length) (ss_c), Value.int .i64 (0), Value.int .i64 (0), Value.slice none (0) (0)].toArray 26 (0, 0))), (102, mone g1 (.cells [Value.int .i64 (0), Value.int .i64 (0), Value.int .u8 (0), Value.int .i64 (0), Value.slice none (0) (0), Value.int .i64 (0), Value.int .i64 (0), Value.slice none (0) (0)].toArray 26 (0, 0))), (0, wm W)]
    have l_ss : ss.length ≤ ss_c := by obtain ⟨_, _, he, hl, _⟩ := h_ss.slice; simp only [Value.slice.injEq] at he; omega
    have k_ss : ss_c ≤ 9223372036854775807 := by obtain ⟨_, _, he, _, hl⟩ := h_ss.slice; simp only [Value.slice.injEq, maxLen] at he hl; omega
    obtain ⟨hoka, hokb⟩ := (show 0 ≤ at_ ∧ at_ ≤ d0.length from hok)
    refine VC.seq ?_
    refine VC.rs ?_
    refine VO.mv ?_
    refine VO.y rfl (.gtr rfl rfl) ?_
    refine VO.mv ?_
    refine VO.dec (t := 33) rfl (fun hc34 => ?_) (fun hc34 => ?_)
    · -- TT
      refine VO.gy rfl ⟨_, rfl, rfl⟩ (.mv rfl) ?_
      refine VO.gy rfl ⟨_, rfl, rfl⟩ (.nilp rfl) ?_
      refine VO.gy rfl ⟨_, rfl, rfl⟩ (.fa rfl tst79 rfl) ?_
      refine VO.gy rfl ⟨_, rfl, rfl⟩ (.ld1 104 rfl tk4 rfl (cellsAt_one rfl rfl)) ?_
      refine VO.gy rfl ⟨_, rfl, rfl⟩ (.not rfl) ?_
      refine VO.y rfl (.pT rfl rfl) ?_
      refine VO.keep [133, 104, 116, 102, 0] [(133, ss_m), (104, mone g3 (.cells [Value.slice A0 (d0.length) (c0), Value.int .i64 (at_), Value.bool bad].toArray 79 (0, 0))), (116, mone g15 (.cells [Value.int .i64 ((my1 d0).1), Value.int .i64 ((rNum d0 1048576 ((my1 d0).2)).1), Value.int .u8 ((rNum d0 3 ((rNum d0 1048576 ((my1 d0).2)).2)).1), Value.int .i64 ((rNum d0 1048576 ((rNum d0 3 ((rNum d0 1048576 ((my1 d0).2)).2)).2)).1), Value.slice ss_A (ss.length) (ss_c), Value.int .i64 (0), Value.int .i64 (0), Value.slice none (0) (0)].toArray 26 (0, 0))), (102, mone g1 (.cells [Value.int .i64 (0), Value.int .i64 (0), Value.int .u8 (0), Value.int .i64 (0), Value.slice none (0) (0), Value.int .i64 (0), Value.int .i64 (0), Value.slice none (0) (0)].toArray 26 (0, 0))), (0, wm W)] (by kernel_rfl) ?_
      refine VO.k9 0 2 3 4 5 6 16 20 39 ?_
      refine VC.condBN rfl (fun hc35 => ?_) (fun hc35 => ?_)
      · -- TTT
        refine VC.skip ?_
        refine outN ?_
        refine VC.seq ?_
        refine VC.block ?_
        refine VC.regD _ 8 [(0, true), (1, true), (2, true), (4, true), (3, false), (5, false), (6, true), (7, false)] follows (by kernel_rfl) (fun _ h => h.sub [133, 116, 102, 0]) ?_
        refine VD.y rfl rfl (.inl rfl) (.fa rfl tst26 rfl) ?_
        refine VD.y rfl rfl (.inl rfl) (.ld1 116 rfl tk23 rfl (cellsAt_one rfl rfl)) ?_
        refine VD.y rfl rfl (.inl rfl) (.mv rfl) ?_
        refine VD.y rfl rfl (.inl rfl) (.mv rfl) ?_
        refine VD.call 104 rfl rfl (.inl rfl) fnOk52 rfl rfl (fun _ _ h => h.sub [133, 116, 102, 0]) (fun W hW => rSmall_ok W (d0 := (d0, at_, bad)) (hW.at (i := 104) rfl) (Rd.mono h0 (hW.out (i := 104) (j := 0) rfl rfl)) bdk 1048576 bdk (by first | assumption | exact ⟨by omega, by omega⟩ | exact ⟨by (simp; done), by (simp; done)⟩)) (fun v36 m36 hv36 => ?_)
        try dsimp only at hv36
        obtain ⟨rfl, rfl, w36_0_1⟩ := hv36
        have hfa37 := (rNum_ok (B := d0) (m := 1048576) (s := (at_, bad)) (by first | assumption | exact ⟨by omega, by omega⟩ | exact ⟨by (simp; done), by (simp; done)⟩) (by omega)).1
        have hfa38 := (rNum_ok (B := d0) (m := 1048576) (s := (at_, bad)) (by first | assumption | exact ⟨by omega, by omega⟩ | exact ⟨by (simp; done), by (simp; done)⟩) (by omega)).1.1
        have hfa39 := (rNum_ok (B := d0) (m := 1048576) (s := (at_, bad)) (by first | assumption | exact ⟨by omega, by omega⟩ | exact ⟨by (simp; done), by (simp; done)⟩) (by omega)).1.2
        have hfa40 := (rNum_ok (B := d0) (m := 1048576) (s := (at_, bad)) (by first | assumption | exact ⟨by omega, by omega⟩ | exact ⟨by (simp; done), by (simp; done)⟩) (by omega)).2
        simp only [inK] at w36_0_1
        refine VD.call 104 rfl rfl (.inl rfl) fnOk52 rfl rfl (fun _ _ h => h.sub [133, 116, 102, 0]) (fun W hW => rSmall_ok W (d0 := (d0, (rNum d0 1048576 (at_, bad)).2)) (hW.at (i := 104) rfl) (Rd.mono h0 (hW.out (i := 104) (j := 0) rfl rfl)) bdk 1048576 bdk (by first | assumption | exact ⟨by omega, by omega⟩ | exact ⟨by (simp; done), by (simp; done)⟩)) (fun v41 m41 hv41 => ?_)
        try dsimp only at hv41
        obtain ⟨rfl, rfl, w41_0_1⟩ := hv41
        have hfa42 := (rNum_ok (B := d0) (m := 1048576) (s := ((rNum d0 1048576 (at_, bad)).2)) (by first | assumption | exact ⟨by omega, by omega⟩ | exact ⟨by (simp; done), by (simp; done)⟩) (by omega)).1
        have hfa43 := (rNum_ok (B := d0) (m := 1048576) (s := ((rNum d0 1048576 (at_, bad)).2)) (by first | assumption | exact ⟨by omega, by omega⟩ | exact ⟨by (simp; done), by (simp; done)⟩) (by omega)).1.1
        have hfa44 := (rNum_ok (B := d0) (m := 1048576) (s := ((rNum d0 1048576 (at_, bad)).2)) (by first | assumption | exact ⟨by omega, by omega⟩ | exact ⟨by (simp; done), by (simp; done)⟩) (by omega)).1.2
        have hfa45 := (rNum_ok (B := d0) (m := 1048576) (s := ((rNum d0 1048576 (at_, bad)).2)) (by first | assumption | exact ⟨by omega, by omega⟩ | exact ⟨by (simp; done), by (simp; done)⟩) (by omega)).2
        simp only [inK] at w41_0_1
        refine VD.y rfl rfl (.inl rfl) (.bst (cs := [Value.int .i64 ((rNum d0 1048576 (at_, bad)).1), Value.int .i64 ((rNum d0 1048576 ((rNum d0 1048576 (at_, bad)).2)).1)]) rfl tst57 tz57 rfl) ?_
        refine VD.bsl (cs := [Value.int .i64 ((rNum d0 1048576 (at_, bad)).1), Value.int .i64 ((rNum d0 1048576 ((rNum d0 1048576 (at_, bad)).2)).1)]) 147 rfl rfl rfl tsl23 tz57 rfl rfl (fun _ h => h.sub [133, 116, 102, 0]) (fun g46 => ?_)
        refine VD.nil rfl ?_ rfl
        obtain ⟨mo48, cs48, hM48, hA48, hC48⟩ := h_ss
        refine VO.app 133 rfl rfl rfl tsl23 tz57 rfl rfl hM48 hA48 (.row 147 _ _ _ 1 1 _ _ Try.underlying23 rfl (cellsAt_one rfl rfl)) (by simp [Value.oneCell']) bdm bd (by decide) (fun v48 m48 hN48 => ?_)
        have ho48 : OwnL TStart m48 mnil v48 (ss ++ [((rNum d0 1048576 (at_, bad)).1, (rNum d0 1048576 ((rNum d0 1048576 (at_, bad)).2)).1)]) := OwnL.one hC48 hN48 (mk_Start (m := _) ((rNum d0 1048576 (at_, bad)).1) ((rNum d0 1048576 ((rNum d0 1048576 (at_, bad)).2)).1) bdk bdk)
        obtain ⟨A48, c48, rfl, l48, k48⟩ := ho48.slice
        simp only [maxLen] at k48
        refine VO.y rfl (.fa rfl tst26 rfl) ?_
        refine VO.store (k := 1) (c' := [Value.int .i64 ((my1 d0).1), Value.int .i64 ((rNum d0 1048576 ((my1 d0).2)).1), Value.int .u8 ((rNum d0 3 ((rNum d0 1048576 ((my1 d0).2)).2)).1), Value.int .i64 ((rNum d0 1048576 ((rNum d0 3 ((rNum d0 1048576 ((my1 d0).2)).2)).2)).1), Value.slice A48 ((ss ++ [((rNum d0 1048576 (at_, bad)).1, (rNum d0 1048576 ((rNum d0 1048576 (at_, bad)).2)).1)]).length) (c48), Value.int .i64 (0), Value.int .i64 (0), Value.slice none (0) (0)]) 116 rfl rfl (.inr ⟨tk23, rfl⟩) rfl rfl rfl rfl rfl ?_
        refine VO.k9 0 2 3 4 5 6 16 20 39 ?_
        refine outBN ?_
        refine outN ?_
        refine VC.reg ?_
        refine VO.mv ?_
        refine VO.y rfl (.sub rfl rfl rfl ⟨bd, bd⟩) ?_
        refine VO.as ?_
        refine VO.k9 0 2 3 4 5 6 16 20 39 ?_
        exact outN ⟨⟨n - 1, ss ++ [((rNum d0 1048576 (at_, bad)).1, (rNum d0 1048576 ((rNum d0 1048576 (at_, bad)).2)).1)], A48, c48, m48, (rNum d0 1048576 ((rNum d0 1048576 (at_, bad)).2)).2.1, (rNum d0 1048576 ((rNum d0 1048576 (at_, bad)).2)).2.2⟩, ⟨by exact starts_step hp (by omega) (by assumption), by omega, by (simp only [List.length_append, List.length_cons, List.length_nil]; omega), by first | assumption | exact ⟨by omega, by (dsimp only; omega)⟩, ho48⟩, bd, ⟨⟨rfl, rfl, rfl, rfl, rfl, rfl, rfl, rfl, trivial⟩, fun _ h => Inv.sub h [133, 104, 116, 102, 0]⟩⟩
      · -- TTF
        refine VC.exit ?_
        refine outE ?_
        refine outE ?_
        refine outBB ?_
        refine outBN ?_
        refine outN ?_
        refine VC.seq ?_
        refine VC.rs ?_
        refine VO.mv ?_
        refine VO.call 104 rfl fnOk54 rfl rfl (fun W hW => rDone_ok W (d0 := (d0, at_, bad)) (hW.at (i := 104) rfl) (Rd.mono h0 (hW.out (i := 104) (j := 0) rfl rfl)) bdk) (fun v49 m49 hv49 => ?_)
        try dsimp only at hv49
        obtain ⟨rfl, rfl, w49_0_1⟩ := hv49
        simp only [inK] at w49_0_1
        refine VO.y rfl (.notD rfl) ?_
        refine VO.mv ?_
        refine VO.dec (t := 66) rfl (fun hc50 => ?_) (fun hc50 => ?_)
        · -- TTFT
          refine VO.gN ?_
          refine VO.gN ?_
          refine VO.gN ?_
          refine VO.y rfl (.pT rfl rfl) ?_
          refine VO.k10 0 2 3 4 5 6 16 20 39 70 ?_
          refine VC.condT rfl ?_
          refine VC.rs ?_
          refine VO.y rfl (.bst (cs := [Value.int .i64 (0), Value.int .i64 (0), Value.int .u8 (0), Value.int .i64 (0), Value.slice none (0) (0), Value.int .i64 (0), Value.int .i64 (0), Value.slice none (0) (0)]) rfl tst26 tz26 rfl) ?_
          refine VO.store (k := 8) (c' := [Value.int .i64 (0), Value.int .i64 (0), Value.int .u8 (0), Value.int .i64 (0), Value.slice none (0) (0), Value.int .i64 (0), Value.int .i64 (0), Value.slice none (0) (0)]) 102 rfl rfl (.inl tk26) rfl rfl rfl rfl rfl ?_
          refine VO.as ?_
          refine VO.k10 0 2 3 4 5 6 16 20 39 70 ?_
          refine VC.ret ?_
          refine outR ?_
          refine ⟨_, _, res_run (rs := [.cell 2 26, .tmp 3]) rfl (.agg 102 rfl tk26 rfl ⟨_, _, _, mone_self _ _, Nat.le_of_ble_eq_true rfl, rfl⟩ (.tmp rfl .nil)), fun W_ hI => out_of (l := []) hI [] rfl rfl (mle_refl _) (fun hS_ => ?_)⟩
          dsimp only [packV]
          have he0 : ((lDec d0).1 : Ty.Den TMessage) = (0, 0, 0, 0, [], 0, 0, []) := by first | rfl | (exact fin0_lDec11_ok)
          refine ⟨[Value.int .i64 (0), Value.int .i64 (0), Value.int .u8 (0), Value.int .i64 (0), Value.slice none (0) (0), Value.int .i64 (0), Value.int .i64 (0), Value.slice none (0) (0)], ?_, ?_⟩
          rotate_left
          · rw [he0]; exact (mkO_Message 0 0 0 0 [] 0 0 [] (Seps.nilAt 1 (Seps.nilAt 0 hS_)) bdk bdk bdk bdk (Ow.nil _ _) bdk bdk (Ow.nil _ _))
          all_goals (first | rfl | (exact fin0_lDec11_ok))
        · -- TTFF
          refine VO.gy rfl ⟨_, rfl, rfl⟩ (.ldA 116 rfl tk26 rfl (cellsAt_one rfl rfl)) ?_
          refine VO.gcallN 151 rfl ⟨_, rfl, rfl⟩ fnOk14 rfl (fun W hW => check11_ok W (mk_Message (m := wm W) ((my1 d0).1) ((rNum d0 1048576 ((my1 d0).2)).1) ((rNum d0 3 ((rNum d0 1048576 ((my1 d0).2)).2)).1) ((rNum d0 1048576 ((rNum d0 3 ((rNum d0 1048576 ((my1 d0).2)).2)).2)).1) ss 0 0 [] bdk bdk bdk bdk (OwnL.rd h_ss (hW.at (i := 133) rfl) (mle_nil _)) bdk bdk (Rd.nil _ _ none 0 (Nat.zero_le _)))) (fun v51 m51 hv51 => ?_)
          try dsimp only at hv51
          subst hv51
          have hfa52 := lCheck_range ((my1 d0).1, (rNum d0 1048576 ((my1 d0).2)).1, (rNum d0 3 ((rNum d0 1048576 ((my1 d0).2)).2)).1, (rNum d0 1048576 ((rNum d0 3 ((rNum d0 1048576 ((my1 d0).2)).2)).2)).1, ss, 0, 0, [])
          refine VO.gy rfl ⟨_, rfl, rfl⟩ (.neq rfl rfl) ?_
          refine VO.y rfl (.pF rfl rfl) ?_
          refine VO.k10 0 2 3 4 5 6 16 20 39 70 ?_
          refine VC.cond rfl (fun hc53 => ?_) (fun hc53 => ?_)
          · -- TTFFT
            refine VC.rs ?_
            refine VO.y rfl (.bst (cs := [Value.int .i64 (0), Value.int .i64 (0), Value.int .u8 (0), Value.int .i64 (0), Value.slice none (0) (0), Value.int .i64 (0), Value.int .i64 (0), Value.slice none (0) (0)]) rfl tst26 tz26 rfl) ?_
            refine VO.store (k := 8) (c' := [Value.int .i64 (0), Value.int .i64 (0), Value.int .u8 (0), Value.int .i64 (0), Value.slice none (0) (0), Value.int .i64 (0), Value.int .i64 (0), Value.slice none (0) (0)]) 102 rfl rfl (.inl tk26) rfl rfl rfl rfl rfl ?_
            refine VO.as ?_
            refine VO.k10 0 2 3 4 5 6 16 20 39 70 ?_
            refine VC.ret ?_
            refine outR ?_
            refine ⟨_, _, res_run (rs := [.cell 2 26, .tmp 3]) rfl (.agg 102 rfl tk26 rfl ⟨_, _, _, mone_self _ _, Nat.le_of_ble_eq_true rfl, rfl⟩ (.tmp rfl .nil)), fun W_ hI => out_of (l := []) hI [] rfl rfl (mle_refl _) (fun hS_ => ?_)⟩
            dsimp only [packV]
            have he0 : ((lDec d0).1 : Ty.Den TMessage) = (0, 0, 0, 0, [], 0, 0, []) := by first | rfl | (exact fin0_lDec11_ok)
            refine ⟨[Value.int .i64 (0), Value.int .i64 (0), Value.int .u8 (0), Value.int .i64 (0), Value.slice none (0) (0), Value.int .i64 (0), Value.int .i64 (0), Value.slice none (0) (0)], ?_, ?_⟩
            rotate_left
            · rw [he0]; exact (mkO_Message 0 0 0 0 [] 0 0 [] (Seps.nilAt 1 (Seps.nilAt 0 hS_)) bdk bdk bdk bdk (Ow.nil _ _) bdk bdk (Ow.nil _ _))
            all_goals (first | rfl | (exact fin0_lDec11_ok))
          · -- TTFFF
            refine VC.skip ?_
            refine outN ?_
            refine VC.rs ?_
            refine VO.y rfl (.ldA 116 rfl tk26 rfl (cellsAt_one rfl rfl)) ?_
            refine VO.store (k := 8) (c' := [Value.int .i64 ((my1 d0).1), Value.int .i64 ((rNum d0 1048576 ((my1 d0).2)).1), Value.int .u8 ((rNum d0 3 ((rNum d0 1048576 ((my1 d0).2)).2)).1), Value.int .i64 ((rNum d0 1048576 ((rNum d0 3 ((rNum d0 1048576 ((my1 d0).2)).2)).2)).1), Value.slice ss_A (ss.length) (ss_c), Value.int .i64 (0), Value.int .i64 (0), Value.slice none (0) (0)]) 102 rfl rfl (.inl tk26) rfl rfl rfl rfl rfl ?_
            refine VO.as ?_
            refine VO.k10 0 2 3 4 5 6 16 20 39 70 ?_
            refine VC.ret ?_
            refine ⟨_, _, res_run (rs := [.cell 2 26, .tmp 3]) rfl (.agg 102 rfl tk26 rfl ⟨_, _, _, mone_self _ _, Nat.le_of_ble_eq_true rfl, rfl⟩ (.tmp rfl .nil)), fun W_ hI => out_of (l := [ss_m]) hI [133] rfl rfl (mle_refl _) (fun hS_ => ?_)⟩
            dsimp only [packV]
            have he0 : ((lDec d0).1 : Ty.Den TMessage) = ((my1 d0).1, (rNum d0 1048576 ((my1 d0).2)).1, (rNum d0 3 ((rNum d0 1048576 ((my1 d0).2)).2)).1, (rNum d0 1048576 ((rNum d0 3 ((rNum d0 1048576 ((my1 d0).2)).2)).2)).1, ss, 0, 0, []) := by first | rfl | (exact fin0_lDec11_ok)
            refine ⟨[Value.int .i64 ((my1 d0).1), Value.int .i64 ((rNum d0 1048576 ((my1 d0).2)).1), Value.int .u8 ((rNum d0 3 ((rNum d0 1048576 ((my1 d0).2)).2)).1), Value.int .i64 ((rNum d0 1048576 ((rNum d0 3 ((rNum d0 1048576 ((my1 d0).2)).2)).2)).1), Value.slice ss_A (ss.length) (ss_c), Value.int .i64 (0), Value.int .i64 (0), Value.slice none (0) (0)], ?_, ?_⟩
            rotate_left
            · rw [he0]; exact (mkO_Message ((my1 d0).1) ((rNum d0 1048576 ((my1 d0).2)).1) ((rNum d0 3 ((rNum d0 1048576 ((my1 d0).2)).2)).1) ((rNum d0 1048576 ((rNum d0 3 ((rNum d0 1048576 ((my1 d0).2)).2)).2)).1) ss 0 0 [] (Seps.nilAt 1 hS_) bdk bdk bdk bdk (OwnL.ow h_ss rfl) bdk bdk (Ow.nil _ _))
            all_goals (first | rfl | (exact fin0_lDec11_ok))
    · -- TF
      refine VO.gN ?_
      refine VO.gN ?_
      refine VO.gN ?_
      refine VO.gN ?_
      refine VO.gN ?_
      refine VO.y rfl (.pF rfl rfl) ?_
      refine VO.keep [133, 104, 116, 102, 0] [(133, ss_m), (104, mone g3 (.cells [Value.slice A0 (d0.length) (c0), Value.int .i64 (at_), Value.bool bad].toArray 79 (0, 0))), (116, mone g15 (.cells [Value.int .i64 ((my1 d0).1), Value.int .i64 ((rNum d0 1048576 ((my1 d0).2)).1), Value.int .u8 ((rNum d0 3 ((rNum d0 1048576 ((my1 d0).2)).2)).1), Value.int .i64 ((rNum d0 1048576 ((rNum d0 3 ((rNum d0 1048576 ((my1 d0).2)).2)).2)).1), Value.slice ss_A (ss.length) (ss_c), Value.int .i64 (0), Value.int .i64 (0), Value.slice none (0) (0)].toArray 26 (0, 0))), (102, mone g1 (.cells [Value.int .i64 (0), Value.int .i64 (0), Value.int .u8 (0), Value.int .i64 (0), Value.slice none (0) (0), Value.int .i64 (0), Value.int .i64 (0), Value.slice none (0) (0)].toArray 26 (0, 0))), (0, wm W)] (by kernel_rfl) ?_
      refine VO.k9 0 2 3 4 5 6 16 20 39 ?_
      refine VC.condF rfl ?_
      refine VC.exit ?_
      refine outE ?_
      refine outE ?_
      refine outBB ?_
      refine outBN ?_
      refine outN ?_
      refine VC.seq ?_
      refine VC.rs ?_
      refine VO.mv ?_
      refine VO.call 104 rfl fnOk54 rfl rfl (fun W hW => rDone_ok W (d0 := (d0, at_, bad)) (hW.at (i := 104) rfl) (Rd.mono h0 (hW.out (i := 104) (j := 0) rfl rfl)) bdk) (fun v54 m54 hv54 => ?_)
      try dsimp only at hv54
      obtain ⟨rfl, rfl, w54_0_1⟩ := hv54
      simp only [inK] at w54_0_1
      refine VO.y rfl (.notD rfl) ?_
      refine VO.mv ?_
      refine VO.dec (t := 66) rfl (fun hc55 => ?_) (fun hc55 => ?_)
      · -- TFT
        refine VO.gN ?_
        refine VO.gN ?_
        refine VO.gN ?_
        refine VO.y rfl (.pT rfl rfl) ?_
        refine VO.k10 0 2 3 4 5 6 16 20 39 70 ?_
        refine VC.condT rfl ?_
        refine VC.rs ?_
        refine VO.y rfl (.bst (cs := [Value.int .i64 (0), Value.int .i64 (0), Value.int .u8 (0), Value.int .i64 (0), Value.slice none (0) (0), Value.int .i64 (0), Value.int .i64 (0), Value.slice none (0) (0)]) rfl tst26 tz26 rfl) ?_
        refine VO.store (k := 8) (c' := [Value.int .i64 (0), Value.int .i64 (0), Value.int .u8 (0), Value.int .i64 (0), Value.slice none (0) (0), Value.int .i64 (0), Value.int .i64 (0), Value.slice none (0) (0)]) 102 rfl rfl (.inl tk26) rfl rfl rfl rfl rfl ?_
        refine VO.as ?_
        refine VO.k10 0 2 3 4 5 6 16 20 39 70 ?_
        refine VC.ret ?_
        refine outR ?_
        refine ⟨_, _, res_run (rs := [.cell 2 26, .tmp 3]) rfl (.agg 102 rfl tk26 rfl ⟨_, _, _, mone_self _ _, Nat.le_of_ble_eq_true rfl, rfl⟩ (.tmp rfl .nil)), fun W_ hI => out_of (l := []) hI [] rfl rfl (mle_refl _) (fun hS_ => ?_)⟩
        dsimp only [packV]
        have he0 : ((lDec d0).1 : Ty.Den TMessage) = (0, 0, 0, 0, [], 0, 0, []) := by first | rfl | (exact fin0_lDec11_ok)
        refine ⟨[Value.int .i64 (0), Value.int .i64 (0), Value.int .u8 (0), Value.int .i64 (0), Value.slice none (0) (0), Value.int .i64 (0), Value.int .i64 (0), Value.slice none (0) (0)], ?_, ?_⟩
        rotate_left
        · rw [he0]; exact (mkO_Message 0 0 0 0 [] 0 0 [] (Seps.nilAt 1 (Seps.nilAt 0 hS_)) bdk bdk bdk bdk (Ow.nil _ _) bdk bdk (Ow.nil _ _))
        all_goals (first | rfl | (exact fin0_lDec11_ok))
      · -- TFF
        refine VO.gy rfl ⟨_, rfl, rfl⟩ (.ldA 116 rfl tk26 rfl (cellsAt_one rfl rfl)) ?_
        refine VO.gcallN 156 rfl ⟨_, rfl, rfl⟩ fnOk14 rfl (fun W hW => check11_ok W (mk_Message (m := wm W) ((my1 d0).1) ((rNum d0 1048576 ((my1 d0).2)).1) ((rNum d0 3 ((rNum d0 1048576 ((my1 d0).2)).2)).1) ((rNum d0 1048576 ((rNum d0 3 ((rNum d0 1048576 ((my1 d0).2)).2)).2)).1) ss 0 0 [] bdk bdk bdk bdk (OwnL.rd h_ss (hW.at (i := 133) rfl) (mle_nil _)) bdk bdk (Rd.nil _ _ none 0 (Nat.zero_le _)))) (fun v56 m56 hv56 => ?_)
        try dsimp only at hv56
        subst hv56
        have hfa57 := lCheck_range ((my1 d0).1, (rNum d0 1048576 ((my1 d0).2)).1, (rNum d0 3 ((rNum d0 1048576 ((my1 d0).2)).2)).1, (rNum d0 1048576 ((rNum d0 3 ((rNum d0 1048576 ((my1 d0).2)).2)).2)).1, ss, 0, 0, [])
        refine VO.gy rfl ⟨_, rfl, rfl⟩ (.neq rfl rfl) ?_
        refine VO.y rfl (.pF rfl rfl) ?_
        refine VO.k10 0 2 3 4 5 6 16 20 39 70 ?_
        refine VC.cond rfl (fun hc58 => ?_) (fun hc58 => ?_)
        · -- TFFT
          refine VC.rs ?_
          refine VO.y rfl (.bst (cs := [Value.int .i64 (0), Value.int .i64 (0), Value.int .u8 (0), Value.int .i64 (0), Value.slice none (0) (0), Value.int .i64 (0), Value.int .i64 (0), Value.slice none (0) (0)]) rfl tst26 tz26 rfl) ?_
          refine VO.store (k := 8) (c' := [Value.int .i64 (0), Value.int .i64 (0), Value.int .u8 (0), Value.int .i64 (0), Value.slice none (0) (0), Value.int .i64 (0), Value.int .i64 (0), Value.slice none (0) (0)]) 102 rfl rfl (.inl tk26) rfl rfl rfl rfl rfl ?_
          refine VO.as ?_
          refine VO.k10 0 2 3 4 5 6 16 20 39 70 ?_
          refine VC.ret ?_
          refine outR ?_
          refine ⟨_, _, res_run (rs := [.cell 2 26, .tmp 3]) rfl (.agg 102 rfl tk26 rfl ⟨_, _, _, mone_self _ _, Nat.le_of_ble_eq_true rfl, rfl⟩ (.tmp rfl .nil)), fun W_ hI => out_of (l := []) hI [] rfl rfl (mle_refl _) (fun hS_ => ?_)⟩
          dsimp only [packV]
          have he0 : ((lDec d0).1 : Ty.Den TMessage) = (0, 0, 0, 0, [], 0, 0, []) := by first | rfl | (exact fin0_lDec11_ok)
          refine ⟨[Value.int .i64 (0), Value.int .i64 (0), Value.int .u8 (0), Value.int .i64 (0), Value.slice none (0) (0), Value.int .i64 (0), Value.int .i64 (0), Value.slice none (0) (0)], ?_, ?_⟩
          rotate_left
          · rw [he0]; exact (mkO_Message 0 0 0 0 [] 0 0 [] (Seps.nilAt 1 (Seps.nilAt 0 hS_)) bdk bdk bdk bdk (Ow.nil _ _) bdk bdk (Ow.nil _ _))
          all_goals (first | rfl | (exact fin0_lDec11_ok))
        · -- TFFF
          refine VC.skip ?_
          refine outN ?_
          refine VC.rs ?_
          refine VO.y rfl (.ldA 116 rfl tk26 rfl (cellsAt_one rfl rfl)) ?_
          refine VO.store (k := 8) (c' := [Value.int .i64 ((my1 d0).1), Value.int .i64 ((rNum d0 1048576 ((my1 d0).2)).1), Value.int .u8 ((rNum d0 3 ((rNum d0 1048576 ((my1 d0).2)).2)).1), Value.int .i64 ((rNum d0 1048576 ((rNum d0 3 ((rNum d0 1048576 ((my1 d0).2)).2)).2)).1), Value.slice ss_A (ss.length) (ss_c), Value.int .i64 (0), Value.int .i64 (0), Value.slice none (0) (0)]) 102 rfl rfl (.inl tk26) rfl rfl rfl rfl rfl ?_
          refine VO.as ?_
          refine VO.k10 0 2 3 4 5 6 16 20 39 70 ?_
          refine VC.ret ?_
          refine ⟨_, _, res_run (rs := [.cell 2 26, .tmp 3]) rfl (.agg 102 rfl tk26 rfl ⟨_, _, _, mone_self _ _, Nat.le_of_ble_eq_true rfl, rfl⟩ (.tmp rfl .nil)), fun W_ hI => out_of (l := [ss_m]) hI [133] rfl rfl (mle_refl _) (fun hS_ => ?_)⟩
          dsimp only [packV]
          have he0 : ((lDec d0).1 : Ty.Den TMessage) = ((my1 d0).1, (rNum d0 1048576 ((my1 d0).2)).1, (rNum d0 3 ((rNum d0 1048576 ((my1 d0).2)).2)).1, (rNum d0 1048576 ((rNum d0 3 ((rNum d0 1048576 ((my1 d0).2)).2)).2)).1, ss, 0, 0, []) := by first | rfl | (exact fin0_lDec11_ok)
          refine ⟨[Value.int .i64 ((my1 d0).1), Value.int .i64 ((rNum d0 1048576 ((my1 d0).2)).1), Value.int .u8 ((rNum d0 3 ((rNum d0 1048576 ((my1 d0).2)).2)).1), Value.int .i64 ((rNum d0 1048576 ((rNum d0 3 ((rNum d0 1048576 ((my1 d0).2)).2)).2)).1), Value.slice ss_A (ss.length) (ss_c), Value.int .i64 (0), Value.int .i64 (0), Value.slice none (0) (0)], ?_, ?_⟩
          rotate_left
          · rw [he0]; exact (mkO_Message ((my1 d0).1) ((rNum d0 1048576 ((my1 d0).2)).1) ((rNum d0 3 ((rNum d0 1048576 ((my1 d0).2)).2)).1) ((rNum d0 1048576 ((rNum d0 3 ((rNum d0 1048576 ((my1 d0).2)).2)).2)).1) ss 0 0 [] (Seps.nilAt 1 hS_) bdk bdk bdk bdk (OwnL.ow h_ss rfl) bdk bdk (Ow.nil _ _))
          all_goals (first | rfl | (exact fin0_lDec11_ok))
  · -- F
    refine VC.rs ?_
    refine VO.y rfl (.eql rfl rfl) ?_
    refine VO.as ?_
    refine VO.keep [116, 104, 102, 0] [(116, mone g15 (.cells [Value.int .i64 ((my1 d0).1), Value.int .i64 ((rNum d0 1048576 ((my1 d0).2)).1), Value.int .u8 (0), Value.int .i64 (0), Value.slice none (0) (0), Value.int .i64 (0), Value.int .i64 (0), Value.slice none (0) (0)].toArray 26 (0, 0))), (104, mone g3 (.cells [Value.slice A0 (d0.length) (c0), Value.int .i64 ((rNum d0 1048576 ((my1 d0).2)).2.1), Value.bool ((rNum d0 1048576 ((my1 d0).2)).2.2)].toArray 79 (0, 0))), (102, mone g1 (.cells [Value.int .i64 (0), Value.int .i64 (0), Value.int .u8 (0), Value.int .i64 (0), Value.slice none (0) (0), Value.int .i64 (0), Value.int .i64 (0), Value.slice none (0) (0)].toArray 26 (0, 0))), (0, wm W)] (by kernel_rfl) ?_
    refine VO.k8 0 2 3 4 5 16 20 52 ?_
    refine VC.cond rfl (fun hc59 => ?_) (fun hc59 => ?_)
    · -- FT
      refine VC.rs ?_
      refine VO.mv ?_
      refine VO.call 104 rfl fnOk52 rfl rfl (fun W hW => rSmall_ok W (d0 := (d0, (rNum d0 1048576 ((my1 d0).2)).2)) (hW.at (i := 104) rfl) (Rd.mono h0 (hW.out (i := 104) (j := 0) rfl rfl)) bdk 1048576 bdk (by first | assumption | exact ⟨by omega, by omega⟩ | exact ⟨by (simp; done), by (simp; done)⟩)) (fun v60 m60 hv60 => ?_)
      try dsimp only at hv60
      obtain ⟨rfl, rfl, w60_0_1⟩ := hv60
      have hfa61 := (rNum_ok (B := d0) (m := 1048576) (s := ((rNum d0 1048576 ((my1 d0).2)).2)) (by first | assumption | exact ⟨by omega, by omega⟩ | exact ⟨by (simp; done), by (simp; done)⟩) (by omega)).1
      have hfa62 := (rNum_ok (B := d0) (m := 1048576) (s := ((rNum d0 1048576 ((my1 d0).2)).2)) (by first | assumption | exact ⟨by omega, by omega⟩ | exact ⟨by (simp; done), by (simp; done)⟩) (by omega)).1.1
      have hfa63 := (rNum_ok (B := d0) (m := 1048576) (s := ((rNum d0 1048576 ((my1 d0).2)).2)) (by first | assumption | exact ⟨by omega, by omega⟩ | exact ⟨by (simp; done), by (simp; done)⟩) (by omega)).1.2
      have hfa64 := (rNum_ok (B := d0) (m := 1048576) (s := ((rNum d0 1048576 ((my1 d0).2)).2)) (by first | assumption | exact ⟨by omega, by omega⟩ | exact ⟨by (simp; done), by (simp; done)⟩) (by omega)).2
      simp only [inK] at w60_0_1
      refine VO.y rfl (.fa rfl tst26 rfl) ?_
      refine VO.store (k := 1) (c' := [Value.int .i64 ((my1 d0).1), Value.int .i64 ((rNum d0 1048576 ((my1 d0).2)).1), Value.int .u8 (0), Value.int .i64 (0), Value.slice none (0) (0), Value.int .i64 ((rNum d0 1048576 ((rNum d0 1048576 ((my1 d0).2)).2)).1), Value.int .i64 (0), Value.slice none (0) (0)]) 116 rfl rfl (.inr ⟨tk3, rfl⟩) rfl rfl rfl rfl rfl ?_
      refine VO.k8 0 2 3 4 5 16 20 52 ?_
      refine VC.rs ?_
      refine VO.mv ?_
      refine VO.call 104 rfl fnOk52 rfl rfl (fun W hW => rSmall_ok W (d0 := (d0, (rNum d0 1048576 ((rNum d0 1048576 ((my1 d0).2)).2)).2)) (hW.at (i := 104) rfl) (Rd.mono h0 (hW.out (i := 104) (j := 0) rfl rfl)) bdk 1048576 bdk (by first | assumption | exact ⟨by omega, by omega⟩ | exact ⟨by (simp; done), by (simp; done)⟩)) (fun v65 m65 hv65 => ?_)
      try dsimp only at hv65
      obtain ⟨rfl, rfl, w65_0_1⟩ := hv65
      have hfa66 := (rNum_ok (B := d0) (m := 1048576) (s := ((rNum d0 1048576 ((rNum d0 1048576 ((my1 d0).2)).2)).2)) (by first | assumption | exact ⟨by omega, by omega⟩ | exact ⟨by (simp; done), by (simp; done)⟩) (by omega)).1
      have hfa67 := (rNum_ok (B := d0) (m := 1048576) (s := ((rNum d0 1048576 ((rNum d0 1048576 ((my1 d0).2)).2)).2)) (by first | assumption | exact ⟨by omega, by omega⟩ | exact ⟨by (simp; done), by (simp; done)⟩) (by omega)).1.1
      have hfa68 := (rNum_ok (B := d0) (m := 1048576) (s := ((rNum d0 1048576 ((rNum d0 1048576 ((my1 d0).2)).2)).2)) (by first | assumption | exact ⟨by omega, by omega⟩ | exact ⟨by (simp; done), by (simp; done)⟩) (by omega)).1.2
      have hfa69 := (rNum_ok (B := d0) (m := 1048576) (s := ((rNum d0 1048576 ((rNum d0 1048576 ((my1 d0).2)).2)).2)) (by first | assumption | exact ⟨by omega, by omega⟩ | exact ⟨by (simp; done), by (simp; done)⟩) (by omega)).2
      simp only [inK] at w65_0_1
      refine VO.y rfl (.fa rfl tst26 rfl) ?_
      refine VO.store (k := 1) (c' := [Value.int .i64 ((my1 d0).1), Value.int .i64 ((rNum d0 1048576 ((my1 d0).2)).1), Value.int .u8 (0), Value.int .i64 (0), Value.slice none (0) (0), Value.int .i64 ((rNum d0 1048576 ((rNum d0 1048576 ((my1 d0).2)).2)).1), Value.int .i64 ((rNum d0 1048576 ((rNum d0 1048576 ((rNum d0 1048576 ((my1 d0).2)).2)).2)).1), Value.slice none (0) (0)]) 116 rfl rfl (.inr ⟨tk3, rfl⟩) rfl rfl rfl rfl rfl ?_
      refine VO.k8 0 2 3 4 5 16 20 52 ?_
      refine VC.reg ?_
      refine VO.mv ?_
      refine VO.call 104 rfl fnOk53 rfl rfl (fun W hW => rComms_ok_ W (d0 := (d0, (rNum d0 1048576 ((rNum d0 1048576 ((rNum d0 1048576 ((my1 d0).2)).2)).2)).2)) (hW.at (i := 104) rfl) (Rd.mono h0 (hW.out (i := 104) (j := 0) rfl rfl)) bdk (by first | assumption | exact ⟨by omega, by omega⟩ | exact ⟨by (simp; done), by (simp; done)⟩)) (fun v70 m70 hv70 => ?_)
      try dsimp only at hv70
      obtain ⟨s70_0, p70_0, rfl, hS70, f70_0, w70_0_1⟩ := hv70
      refine VO.inv _ (fun _ h => h.parts (i := 104) rfl hS70 [171, 172]) ?_
      have hfa73 := (rComms_ok (B := d0) (s := ((rNum d0 1048576 ((rNum d0 1048576 ((rNum d0 1048576 ((my1 d0).2)).2)).2)).2)) (by first | assumption | exact ⟨by omega, by omega⟩ | exact ⟨by (simp; done), by (simp; done)⟩)).1.1
      have hfa74 := (rComms_ok (B := d0) (s := ((rNum d0 1048576 ((rNum d0 1048576 ((rNum d0 1048576 ((my1 d0).2)).2)).2)).2)) (by first | assumption | exact ⟨by omega, by omega⟩ | exact ⟨by (simp; done), by (simp; done)⟩)).1.2
      have hfa75 := (rComms_ok (B := d0) (s := ((rNum d0 1048576 ((rNum d0 1048576 ((rNum d0 1048576 ((my1 d0).2)).2)).2)).2)) (by first | assumption | exact ⟨by omega, by omega⟩ | exact ⟨by (simp; done), by (simp; done)⟩)).2
      simp only [inK] at w70_0_1
      obtain ⟨A70_0, c70_0, eq70_0, l70_0, k70_0⟩ := f70_0.slice
      subst eq70_0
      simp only [maxLen] at k70_0
      refine VO.y rfl (.fa rfl tst26 rfl) ?_
      refine VO.store (k := 1) (c' := [Value.int .i64 ((my1 d0).1), Value.int .i64 ((rNum d0 1048576 ((my1 d0).2)).1), Value.int .u8 (0), Value.int .i64 (0), Value.slice none (0) (0), Value.int .i64 ((rNum d0 1048576 ((rNum d0 1048576 ((my1 d0).2)).2)).1), Value.int .i64 ((rNum d0 1048576 ((rNum d0 1048576 ((rNum d0 1048576 ((my1 d0).2)).2)).2)).1), Value.slice A70_0 (((rComms d0 ((rNum d0 1048576 ((rNum d0 1048576 ((rNum d0 1048576 ((my1 d0).2)).2)).2)).2)).1).length) (c70_0)]) 116 rfl rfl (.inr ⟨tk24, rfl⟩) rfl rfl rfl rfl rfl ?_
      refine VO.keep [171, 172, 116, 102, 0] [(171, p70_0), (172, mone g3 (.cells [Value.slice A0 (d0.length) (c0), Value.int .i64 ((rComms d0 ((rNum d0 1048576 ((rNum d0 1048576 ((rNum d0 1048576 ((my1 d0).2)).2)).2)).2)).2.1), Value.bool ((rComms d0 ((rNum d0 1048576 ((rNum d0 1048576 ((rNum d0 1048576 ((my1 d0).2)).2)).2)).2)).2.2)].toArray 79 (0, 0))), (116, mone g15 (.cells [Value.int .i64 ((my1 d0).1), Value.int .i64 ((rNum d0 1048576 ((my1 d0).2)).1), Value.int .u8 (0), Value.int .i64 (0), Value.slice none (0) (0), Value.int .i64 ((rNum d0 1048576 ((rNum d0 1048576 ((my1 d0).2)).2)).1), Value.int .i64 ((rNum d0 1048576 ((rNum d0 1048576 ((rNum d0 1048576 ((my1 d0).2)).2)).2)).1), Value.slice A70_0 (((rComms d0 ((rNum d0 1048576 ((rNum d0 1048576 ((rNum d0 1048576 ((my1 d0).2)).2)).2)).2)).1).length) (c70_0)].toArray 26 (0, 0))), (102, mone g1 (.cells [Value.int .i64 (0), Value.int .i64 (0), Value.int .u8 (0), Value.int .i64 (0), Value.slice none (0) (0), Value.int .i64 (0), Value.int .i64 (0), Value.slice none (0) (0)].toArray 26 (0, 0))), (0, wm W)] (by kernel_rfl) ?_
      refine VO.k8 0 2 3 4 5 16 20 52 ?_
      refine outBN ?_
      refine outN ?_
      refine VC.seq ?_
      refine VC.rs ?_
      refine VO.mv ?_
      refine VO.call 172 rfl fnOk54 rfl rfl (fun W hW => rDone_ok W (d0 := (d0, (rComms d0 ((rNum d0 1048576 ((rNum d0 1048576 ((rNum d0 1048576 ((my1 d0).2)).2)).2)).2)).2)) (hW.at (i := 172) rfl) (Rd.mono h0 (hW.out (i := 172) (j := 0) rfl rfl)) bdk) (fun v76 m76 hv76 => ?_)
      try dsimp only at hv76
      obtain ⟨rfl, rfl, w76_0_1⟩ := hv76
      simp only [inK] at w76_0_1
      refine VO.y rfl (.notD rfl) ?_
      refine VO.mv ?_
      refine VO.dec (t := 66) rfl (fun hc77 => ?_) (fun hc77 => ?_)
      · -- FTT
        refine VO.gN ?_
        refine VO.gN ?_
        refine VO.gN ?_
        refine VO.y rfl (.pT rfl rfl) ?_
        refine VO.k9 0 2 3 4 5 16 20 52 70 ?_
        refine VC.condT rfl ?_
        refine VC.rs ?_
        refine VO.y rfl (.bst (cs := [Value.int .i64 (0), Value.int .i64 (0), Value.int .u8 (0), Value.int .i64 (0), Value.slice none (0) (0), Value.int .i64 (0), Value.int .i64 (0), Value.slice none (0) (0)]) rfl tst26 tz26 rfl) ?_
        refine VO.store (k := 8) (c' := [Value.int .i64 (0), Value.int .i64 (0), Value.int .u8 (0), Value.int .i64 (0), Value.slice none (0) (0), Value.int .i64 (0), Value.int .i64 (0), Value.slice none (0) (0)]) 102 rfl rfl (.inl tk26) rfl rfl rfl rfl rfl ?_
        refine VO.as ?_
        refine VO.k9 0 2 3 4 5 16 20 52 70 ?_
        refine VC.ret ?_
        refine outR ?_
        refine ⟨_, _, res_run (rs := [.cell 2 26, .tmp 3]) rfl (.agg 102 rfl tk26 rfl ⟨_, _, _, mone_self _ _, Nat.le_of_ble_eq_true rfl, rfl⟩ (.tmp rfl .nil)), fun W_ hI => out_of (l := []) hI [] rfl rfl (mle_refl _) (fun hS_ => ?_)⟩
        dsimp only [packV]
        have he0 : ((lDec d0).1 : Ty.Den TMessage) = (0, 0, 0, 0, [], 0, 0, []) := by first | rfl | (exact fin0_lDec11_ok)
        refine ⟨[Value.int .i64 (0), Value.int .i64 (0), Value.int .u8 (0), Value.int .i64 (0), Value.slice none (0) (0), Value.int .i64 (0), Value.int .i64 (0), Value.slice none (0) (0)], ?_, ?_⟩
        rotate_left
        · rw [he0]; exact (mkO_Message 0 0 0 0 [] 0 0 [] (Seps.nilAt 1 (Seps.nilAt 0 hS_)) bdk bdk bdk bdk (Ow.nil _ _) bdk bdk (Ow.nil _ _))
        all_goals (first | rfl | (exact fin0_lDec11_ok))
      · -- FTF
        refine VO.gy rfl ⟨_, rfl, rfl⟩ (.ldA 116 rfl tk26 rfl (cellsAt_one rfl rfl)) ?_
        refine VO.gcallN 178 rfl ⟨_, rfl, rfl⟩ fnOk14 rfl (fun W hW => check11_ok W (mk_Message (m := wm W) ((my1 d0).1) ((rNum d0 1048576 ((my1 d0).2)).1) 0 0 [] ((rNum d0 1048576 ((rNum d0 1048576 ((my1 d0).2)).2)).1) ((rNum d0 1048576 ((rNum d0 1048576 ((rNum d0 1048576 ((my1 d0).2)).2)).2)).1) ((rComms d0 ((rNum d0 1048576 ((rNum d0 1048576 ((rNum d0 1048576 ((my1 d0).2)).2)).2)).2)).1) bdk bdk bdk bdk (Rd.nil _ _ none 0 (Nat.zero_le _)) bdk bdk (Ow.rd f70_0 (hW.at (i := 171) rfl)))) (fun v78 m78 hv78 => ?_)
        try dsimp only at hv78
        subst hv78
        have hfa79 := lCheck_range ((my1 d0).1, (rNum d0 1048576 ((my1 d0).2)).1, 0, 0, [], (rNum d0 1048576 ((rNum d0 1048576 ((my1 d0).2)).2)).1, (rNum d0 1048576 ((rNum d0 1048576 ((rNum d0 1048576 ((my1 d0).2)).2)).2)).1, (rComms d0 ((rNum d0 1048576 ((rNum d0 1048576 ((rNum d0 1048576 ((my1 d0).2)).2)).2)).2)).1)
        refine VO.gy rfl ⟨_, rfl, rfl⟩ (.neq rfl rfl) ?_
        refine VO.y rfl (.pF rfl rfl) ?_
        refine VO.k9 0 2 3 4 5 16 20 52 70 ?_
        refine VC.cond rfl (fun hc80 => ?_) (fun hc80 => ?_)
        · -- FTFT
          refine VC.rs ?_
          refine VO.y rfl (.bst (cs := [Value.int .i64 (0), Value.int .i64 (0), Value.int .u8 (0), Value.int .i64 (0), Value.slice none (0) (0), Value.int .i64 (0), Value.int .i64 (0), Value.slice none (0) (0)]) rfl tst26 tz26 rfl) ?_
          refine VO.store (k := 8) (c' := [Value.int .i64 (0), Value.int .i64 (0), Value.int .u8 (0), Value.int .i64 (0), Value.slice none (0) (0), Value.int .i64 (0), Value.int .i64 (0), Value.slice none (0) (0)]) 102 rfl rfl (.inl tk26) rfl rfl rfl rfl rfl ?_
          refine VO.as ?_
          refine VO.k9 0 2 3 4 5 16 20 52 70 ?_
          refine VC.ret ?_
          refine outR ?_
          refine ⟨_, _, res_run (rs := [.cell 2 26, .tmp 3]) rfl (.agg 102 rfl tk26 rfl ⟨_, _, _, mone_self _ _, Nat.le_of_ble_eq_true rfl, rfl⟩ (.tmp rfl .nil)), fun W_ hI => out_of (l := []) hI [] rfl rfl (mle_refl _) (fun hS_ => ?_)⟩
          dsimp only [packV]
          have he0 : ((lDec d0).1 : Ty.Den TMessage) = (0, 0, 0, 0, [], 0, 0, []) := by first | rfl | (exact fin0_lDec11_ok)
          refine ⟨[Value.int .i64 (0), Value.int .i64 (0), Value.int .u8 (0), Value.int .i64 (0), Value.slice none (0) (0), Value.int .i64 (0), Value.int .i64 (0), Value.slice none (0) (0)], ?_, ?_⟩
          rotate_left
          · rw [he0]; exact (mkO_Message 0 0 0 0 [] 0 0 [] (Seps.nilAt 1 (Seps.nilAt 0 hS_)) bdk bdk bdk bdk (Ow.nil _ _) bdk bdk (Ow.nil _ _))
          all_goals (first | rfl | (exact fin0_lDec11_ok))
        · -- FTFF
          refine VC.skip ?_
          refine outN ?_
          refine VC.rs ?_
          refine VO.y rfl (.ldA 116 rfl tk26 rfl (cellsAt_one rfl rfl)) ?_
          refine VO.store (k := 8) (c' := [Value.int .i64 ((my1 d0).1), Value.int .i64 ((rNum d0 1048576 ((my1 d0).2)).1), Value.int .u8 (0), Value.int .i64 (0), Value.slice none (0) (0), Value.int .i64 ((rNum d0 1048576 ((rNum d0 1048576 ((my1 d0).2)).2)).1), Value.int .i64 ((rNum d0 1048576 ((rNum d0 1048576 ((rNum d0 1048576 ((my1 d0).2)).2)).2)).1), Value.slice A70_0 (((rComms d0 ((rNum d0 1048576 ((rNum d0 1048576 ((rNum d0 1048576 ((my1 d0).2)).2)).2)).2)).1).length) (c70_0)]) 102 rfl rfl (.inl tk26) rfl rfl rfl rfl rfl ?_
          refine VO.as ?_
          refine VO.k9 0 2 3 4 5 16 20 52 70 ?_
          refine VC.ret ?_
          refine ⟨_, _, res_run (rs := [.cell 2 26, .tmp 3]) rfl (.agg 102 rfl tk26 rfl ⟨_, _, _, mone_self _ _, Nat.le_of_ble_eq_true rfl, rfl⟩ (.tmp rfl .nil)), fun W_ hI => out_of (l := [p70_0]) hI [171] rfl rfl (mle_refl _) (fun hS_ => ?_)⟩
          dsimp only [packV]
          have he0 : ((lDec d0).1 : Ty.Den TMessage) = ((my1 d0).1, (rNum d0 1048576 ((my1 d0).2)).1, 0, 0, [], (rNum d0 1048576 ((rNum d0 1048576 ((my1 d0).2)).2)).1, (rNum d0 1048576 ((rNum d0 1048576 ((rNum d0 1048576 ((my1 d0).2)).2)).2)).1, (rComms d0 ((rNum d0 1048576 ((rNum d0 1048576 ((rNum d0 1048576 ((my1 d0).2)).2)).2)).2)).1) := by first | rfl | (exact fin0_lDec11_ok)
          refine ⟨[Value.int .i64 ((my1 d0).1), Value.int .i64 ((rNum d0 1048576 ((my1 d0).2)).1), Value.int .u8 (0), Value.int .i64 (0), Value.slice none (0) (0), Value.int .i64 ((rNum d0 1048576 ((rNum d0 1048576 ((my1 d0).2)).2)).1), Value.int .i64 ((rNum d0 1048576 ((rNum d0 1048576 ((rNum d0 1048576 ((my1 d0).2)).2)).2)).1), Value.slice A70_0 (((rComms d0 ((rNum d0 1048576 ((rNum d0 1048576 ((rNum d0 1048576 ((my1 d0).2)).2)).2)).2)).1).length) (c70_0)], ?_, ?_⟩
          rotate_left
          · rw [he0]; exact (mkO_Message ((my1 d0).1) ((rNum d0 1048576 ((my1 d0).2)).1) 0 0 [] ((rNum d0 1048576 ((rNum d0 1048576 ((my1 d0).2)).2)).1) ((rNum d0 1048576 ((rNum d0 1048576 ((rNum d0 1048576 ((my1 d0).2)).2)).2)).1) ((rComms d0 ((rNum d0 1048576 ((rNum d0 1048576 ((rNum d0 1048576 ((my1 d0).2)).2)).2)).2)).1) (Seps.nilAt 0 hS_) bdk bdk bdk bdk (Ow.nil _ _) bdk bdk f70_0)
          all_goals (first | rfl | (exact fin0_lDec11_ok))
    · -- FF
      refine VC.reg ?_
      refine VO.mv ?_
      refine VO.call 104 rfl fnOk52 rfl rfl (fun W hW => rSmall_ok W (d0 := (d0, (rNum d0 1048576 ((my1 d0).2)).2)) (hW.at (i := 104) rfl) (Rd.mono h0 (hW.out (i := 104) (j := 0) rfl rfl)) bdk 1048576 bdk (by first | assumption | exact ⟨by omega, by omega⟩ | exact ⟨by (simp; done), by (simp; done)⟩)) (fun v81 m81 hv81 => ?_)
      try dsimp only at hv81
      obtain ⟨rfl, rfl, w81_0_1⟩ := hv81
      have hfa82 := (rNum_ok (B := d0) (m := 1048576) (s := ((rNum d0 1048576 ((my1 d0).2)).2)) (by first | assumption | exact ⟨by omega, by omega⟩ | exact ⟨by (simp; done), by (simp; done)⟩) (by omega)).1
      have hfa83 := (rNum_ok (B := d0) (m := 1048576) (s := ((rNum d0 1048576 ((my1 d0).2)).2)) (by first | assumption | exact ⟨by omega, by omega⟩ | exact ⟨by (simp; done), by (simp; done)⟩) (by omega)).1.1
      have hfa84 := (rNum_ok (B := d0) (m := 1048576) (s := ((rNum d0 1048576 ((my1 d0).2)).2)) (by first | assumption | exact ⟨by omega, by omega⟩ | exact ⟨by (simp; done), by (simp; done)⟩) (by omega)).1.2
      have hfa85 := (rNum_ok (B := d0) (m := 1048576) (s := ((rNum d0 1048576 ((my1 d0).2)).2)) (by first | assumption | exact ⟨by omega, by omega⟩ | exact ⟨by (simp; done), by (simp; done)⟩) (by omega)).2
      simp only [inK] at w81_0_1
      refine VO.y rfl (.fa rfl tst26 rfl) ?_
      refine VO.store (k := 1) (c' := [Value.int .i64 ((my1 d0).1), Value.int .i64 ((rNum d0 1048576 ((my1 d0).2)).1), Value.int .u8 (0), Value.int .i64 ((rNum d0 1048576 ((rNum d0 1048576 ((my1 d0).2)).2)).1), Value.slice none (0) (0), Value.int .i64 (0), Value.int .i64 (0), Value.slice none (0) (0)]) 116 rfl rfl (.inr ⟨tk3, rfl⟩) rfl rfl rfl rfl rfl ?_
      refine VO.k8 0 2 3 4 5 16 20 52 ?_
      refine outBN ?_
      refine outN ?_
      refine VC.seq ?_
      refine VC.rs ?_
      refine VO.mv ?_
      refine VO.call 104 rfl fnOk54 rfl rfl (fun W hW => rDone_ok W (d0 := (d0, (rNum d0 1048576 ((rNum d0 1048576 ((my1 d0).2)).2)).2)) (hW.at (i := 104) rfl) (Rd.mono h0 (hW.out (i := 104) (j := 0) rfl rfl)) bdk) (fun v86 m86 hv86 => ?_)
      try dsimp only at hv86
      obtain ⟨rfl, rfl, w86_0_1⟩ := hv86
      simp only [inK] at w86_0_1
      refine VO.y rfl (.notD rfl) ?_
      refine VO.mv ?_
      refine VO.dec (t := 66) rfl (fun hc87 => ?_) (fun hc87 => ?_)
      · -- FFT
        refine VO.gN ?_
        refine VO.gN ?_
        refine VO.gN ?_
        refine VO.y rfl (.pT rfl rfl) ?_
        refine VO.k9 0 2 3 4 5 16 20 52 70 ?_
        refine VC.condT rfl ?_
        refine VC.rs ?_
        refine VO.y rfl (.bst (cs := [Value.int .i64 (0), Value.int .i64 (0), Value.int .u8 (0), Value.int .i64 (0), Value.slice none (0) (0), Value.int .i64 (0), Value.int .i64 (0), Value.slice none (0) (0)]) rfl tst26 tz26 rfl) ?_
        refine VO.store (k := 8) (c' := [Value.int .i64 (0), Value.int .i64 (0), Value.int .u8 (0), Value.int .i64 (0), Value.slice none (0) (0), Value.int .i64 (0), Value.int .i64 (0), Value.slice none (0) (0)]) 102 rfl rfl (.inl tk26) rfl rfl rfl rfl rfl ?_
        refine VO.as ?_
        refine VO.keep [104, 116, 102, 0] [(104, mone g3 (.cells [Value.slice A0 (d0.length) (c0), Value.int .i64 (((rNum d0 1048576 ((rNum d0 1048576 ((my1 d0).2)).2)).2.1)), Value.bool ((rNum d0 1048576 ((rNum d0 1048576 ((my1 d0).2)).2)).2.2)].toArray 79 (0, 0))), (116, mone g15 (.cells [Value.int .i64 ((my1 d0).1), Value.int .i64 ((rNum d0 1048576 ((my1 d0).2)).1), Value.int .u8 (0), Value.int .i64 ((rNum d0 1048576 ((rNum d0 1048576 ((my1 d0).2)).2)).1), Value.slice none (0) (0), Value.int .i64 (0), Value.int .i64 (0), Value.slice none (0) (0)].toArray 26 (0, 0))), (102, mone g1 (.cells [Value.int .i64 (0), Value.int .i64 (0), Value.int .u8 (0), Value.int .i64 (0), Value.slice none (0) (0), Value.int .i64 (0), Value.int .i64 (0), Value.slice none (0) (0)].toArray 26 (0, 0))), (0, wm W)] (by kernel_rfl) ?_
        refine VO.k9 0 2 3 4 5 16 20 52 70 ?_
        refine VC.ret ?_
        refine outR ?_
        refine ⟨_, _, res_run (rs := [.cell 2 26, .tmp 3]) rfl (.agg 102 rfl tk26 rfl ⟨_, _, _, mone_self _ _, Nat.le_of_ble_eq_true rfl, rfl⟩ (.tmp rfl .nil)), fun W_ hI => out_of (l := []) hI [] rfl rfl (mle_refl _) (fun hS_ => ?_)⟩
        dsimp only [packV]
        have he0 : ((lDec d0).1 : Ty.Den TMessage) = (0, 0, 0, 0, [], 0, 0, []) := by first | rfl | (exact fin0_lDec11_ok)
        refine ⟨[Value.int .i64 (0), Value.int .i64 (0), Value.int .u8 (0), Value.int .i64 (0), Value.slice none (0) (0), Value.int .i64 (0), Value.int .i64 (0), Value.slice none (0) (0)], ?_, ?_⟩
        rotate_left
        · rw [he0]; exact (mkO_Message 0 0 0 0 [] 0 0 [] (Seps.nilAt 1 (Seps.nilAt 0 hS_)) bdk bdk bdk bdk (Ow.nil _ _) bdk bdk (Ow.nil _ _))
        all_goals (first | rfl | (exact fin0_lDec11_ok))
      · -- FFF
        refine VO.gy rfl ⟨_, rfl, rfl⟩ (.ldA 116 rfl tk26 rfl (cellsAt_one rfl rfl)) ?_
        refine VO.gcallN 188 rfl ⟨_, rfl, rfl⟩ fnOk14 rfl (fun W hW => check11_ok W (mk_Message (m := wm W) ((my1 d0).1) ((rNum d0 1048576 ((my1 d0).2)).1) 0 ((rNum d0 1048576 ((rNum d0 1048576 ((my1 d0).2)).2)).1) [] 0 0 [] bdk bdk bdk bdk (Rd.nil _ _ none 0 (Nat.zero_le _)) bdk bdk (Rd.nil _ _ none 0 (Nat.zero_le _)))) (fun v88 m88 hv88 => ?_)
        try dsimp only at hv88
        subst hv88
        have hfa89 := lCheck_range ((my1 d0).1, (rNum d0 1048576 ((my1 d0).2)).1, 0, (rNum d0 1048576 ((rNum d0 1048576 ((my1 d0).2)).2)).1, [], 0, 0, [])
        refine VO.gy rfl ⟨_, rfl, rfl⟩ (.neq rfl rfl) ?_
        refine VO.y rfl (.pF rfl rfl) ?_
        refine VO.k9 0 2 3 4 5 16 20 52 70 ?_
        refine VC.cond rfl (fun hc90 => ?_) (fun hc90 => ?_)
        · -- FFFT
          refine VC.rs ?_
          refine VO.y rfl (.bst (cs := [Value.int .i64 (0), Value.int .i64 (0), Value.int .u8 (0), Value.int .i64 (0), Value.slice none (0) (0), Value.int .i64 (0), Value.int .i64 (0), Value.slice none (0) (0)]) rfl tst26 tz26 rfl) ?_
          refine VO.store (k := 8) (c' := [Value.int .i64 (0), Value.int .i64 (0), Value.int .u8 (0), Value.int .i64 (0), Value.slice none (0) (0), Value.int .i64 (0), Value.int .i64 (0), Value.slice none (0) (0)]) 102 rfl rfl (.inl tk26) rfl rfl rfl rfl rfl ?_
          refine VO.as ?_
          refine VO.keep [104, 116, 102, 0] [(104, mone g3 (.cells [Value.slice A0 (d0.length) (c0), Value.int .i64 (((rNum d0 1048576 ((rNum d0 1048576 ((my1 d0).2)).2)).2.1)), Value.bool ((rNum d0 1048576 ((rNum d0 1048576 ((my1 d0).2)).2)).2.2)].toArray 79 (0, 0))), (116, mone g15 (.cells [Value.int .i64 ((my1 d0).1), Value.int .i64 ((rNum d0 1048576 ((my1 d0).2)).1), Value.int .u8 (0), Value.int .i64 ((rNum d0 1048576 ((rNum d0 1048576 ((my1 d0).2)).2)).1), Value.slice none (0) (0), Value.int .i64 (0), Value.int .i64 (0), Value.slice none (0) (0)].toArray 26 (0, 0))), (102, mone g1 (.cells [Value.int .i64 (0), Value.int .i64 (0), Value.int .u8 (0), Value.int .i64 (0), Value.slice none (0) (0), Value.int .i64 (0), Value.int .i64 (0), Value.slice none (0) (0)].toArray 26 (0, 0))), (0, wm W)] (by kernel_rfl) ?_
          refine VO.k9 0 2 3 4 5 16 20 52 70 ?_
          refine VC.ret ?_
          refine outR ?_
          refine ⟨_, _, res_run (rs := [.cell 2 26, .tmp 3]) rfl (.agg 102 rfl tk26 rfl ⟨_, _, _, mone_self _ _, Nat.le_of_ble_eq_true rfl, rfl⟩ (.tmp rfl .nil)), fun W_ hI => out_of (l := []) hI [] rfl rfl (mle_refl _) (fun hS_ => ?_)⟩
          dsimp only [packV]
          have he0 : ((lDec d0).1 : Ty.Den TMessage) = (0, 0, 0, 0, [], 0, 0, []) := by first | rfl | (exact fin0_lDec11_ok)
          refine ⟨[Value.int .i64 (0), Value.int .i64 (0), Value.int .u8 (0), Value.int .i64 (0), Value.slice none (0) (0), Value.int .i64 (0), Value.int .i64 (0), Value.slice none (0) (0)], ?_, ?_⟩
          rotate_left
          · rw [he0]; exact (mkO_Message 0 0 0 0 [] 0 0 [] (Seps.nilAt 1 (Seps.nilAt 0 hS_)) bdk bdk bdk bdk (Ow.nil _ _) bdk bdk (Ow.nil _ _))
          all_goals (first | rfl | (exact fin0_lDec11_ok))
        · -- FFFF
          refine VC.skip ?_
          refine outN ?_
          refine VC.rs ?_
          refine VO.y rfl (.ldA 116 rfl tk26 rfl (cellsAt_one rfl rfl)) ?_
          refine VO.store (k := 8) (c' := [Value.int .i64 ((my1 d0).1), Value.int .i64 ((rNum d0 1048576 ((my1 d0).2)).1), Value.int .u8 (0), Value.int .i64 ((rNum d0 1048576 ((rNum d0 1048576 ((my1 d0).2)).2)).1), Value.slice none (0) (0), Value.int .i64 (0), Value.int .i64 (0), Value.slice none (0) (0)]) 102 rfl rfl (.inl tk26) rfl rfl rfl rfl rfl ?_
          refine VO.as ?_
          refine VO.keep [104, 116, 102, 0] [(104, mone g3 (.cells [Value.slice A0 (d0.length) (c0), Value.int .i64 (((rNum d0 1048576 ((rNum d0 1048576 ((my1 d0).2)).2)).2.1)), Value.bool ((rNum d0 1048576 ((rNum d0 1048576 ((my1 d0).2)).2)).2.2)].toArray 79 (0, 0))), (116, mone g15 (.cells [Value.int .i64 ((my1 d0).1), Value.int .i64 ((rNum d0 1048576 ((my1 d0).2)).1), Value.int .u8 (0), Value.int .i64 ((rNum d0 1048576 ((rNum d0 1048576 ((my1 d0).2)).2)).1), Value.slice none (0) (0), Value.int .i64 (0), Value.int .i64 (0), Value.slice none (0) (0)].toArray 26 (0, 0))), (102, mone g1 (.cells [Value.int .i64 ((my1 d0).1), Value.int .i64 ((rNum d0 1048576 ((my1 d0).2)).1), Value.int .u8 (0), Value.int .i64 ((rNum d0 1048576 ((rNum d0 1048576 ((my1 d0).2)).2)).1), Value.slice none (0) (0), Value.int .i64 (0), Value.int .i64 (0), Value.slice none (0) (0)].toArray 26 (0, 0))), (0, wm W)] (by kernel_rfl) ?_
          refine VO.k9 0 2 3 4 5 16 20 52 70 ?_
          refine VC.ret ?_
          refine ⟨_, _, res_run (rs := [.cell 2 26, .tmp 3]) rfl (.agg 102 rfl tk26 rfl ⟨_, _, _, mone_self _ _, Nat.le_of_ble_eq_true rfl, rfl⟩ (.tmp rfl .nil)), fun W_ hI => out_of (l := []) hI [] rfl rfl (mle_refl _) (fun hS_ => ?_)⟩
          dsimp only [packV]
          have he0 : ((lDec d0).1 : Ty.Den TMessage) = ((my1 d0).1, (rNum d0 1048576 ((my1 d0).2)).1, 0, (rNum d0 1048576 ((rNum d0 1048576 ((my1 d0).2)).2)).1, [], 0, 0, []) := by first | rfl | (exact fin0_lDec11_ok)
          refine ⟨[Value.int .i64 ((my1 d0).1), Value.int .i64 ((rNum d0 1048576 ((my1 d0).2)).1), Value.int .u8 (0), Value.int .i64 ((rNum d0 1048576 ((rNum d0 1048576 ((my1 d0).2)).2)).1), Value.slice none (0) (0), Value.int .i64 (0), Value.int .i64 (0), Value.slice none (0) (0)], ?_, ?_⟩
          rotate_left
          · rw [he0]; exact (mkO_Message ((my1 d0).1) ((rNum d0 1048576 ((my1 d0).2)).1) 0 ((rNum d0 1048576 ((rNum d0 1048576 ((my1 d0).2)).2)).1) [] 0 0 [] (Seps.nilAt 1 (Seps.nilAt 0 hS_)) bdk bdk bdk bdk (Ow.nil _ _) bdk bdk (Ow.nil _ _))
          all_goals (first | rfl | (exact fin0_lDec11_ok))
theorem fin0_ApartStarts_ok {P : Prop} (h : P := by first | omega | (simp only [List.length_append, List.length_nil, List.length_cons, List.length_take, List.length_drop] at *; omega) | exact e1 _ (List.mem_of_getElem? ‹d1[_]? = some _›)) : P := h
theorem ApartStarts_ok (W : World) {m0 : Mem} (hm : mle (m0) (wm W)) {v0 : Value} {d0 : List DStart} (h0 : Ow (.sl TStart) m0 [v0] d0) {v1 : Value} {d1 : List (List DStart)} (h1 : Rd (.sl (.sl TStart)) (mout (wm W) (m0)) [v1] d1) (e0 : d1.length ≤ 1000) (e1 : ∀ x ∈ d1, x.length ≤ 8796093020000) : CallR Try.prog 26 [v0, v1] W (m0) (fun v m' => v = .bool true) := by
  obtain ⟨A0, c0, e0_, l0, k0⟩ := h0.slice
  subst e0_
  simp only [maxLen] at k0
  obtain ⟨A1, c1, rfl, l1, k1⟩ := h1.slice
  simp only [maxLen] at k1
  refine CallR.ofB (n := 69) hm Try.func26 rfl rfl rfl ?_
  refine VC.rs ?_
  refine VO.as ?_
  refine VO.k3 0 1 4 ?_
  refine VC.rs ?_
  refine VO.mv ?_
  refine VO.y rfl (.lenS rfl tsl51) ?_
  refine VO.mks (e := (.sl TStart)) (a := ((d1.length : Nat) : Int)) (k := d1.length) 106 rfl rfl rfl rfl tsl51 tz23 (y := []) (Ow.nil _ mnil) (by simp only [maxLen]; (exact fin0_ApartStarts_ok)) (by exact fin0_ApartStarts_ok) (by decide) (fun v6 m6 hk6 => ?_)
  obtain ⟨A6, c6, rfl, l6, k6⟩ := hk6.slice
  simp only [maxLen] at k6
  have ln6 : (List.replicate d1.length ([] : List DStart)).length = d1.length := List.length_replicate
  refine VO.as ?_
  refine VO.k4 0 1 4 5 ?_
  refine VC.seq ?_
  refine VC.rs ?_
  refine VO.as ?_
  refine VO.keep [106, 0, 1] [(106, m6), (0, mout (wm W) (m0)), (1, m0)] (by kernel_rfl) ?_
  refine VO.k5 0 1 4 5 6 ?_
  refine VC.block ?_
  refine VC.loop (G := Nat × (List (List DStart)) × Mem) (fun g => [(5, Value.slice A6 ((List.replicate d1.length ([] : List DStart)).length) (c6)), (6, Value.int .i64 ((((g.1) : Nat) : Int))), (0, Value.slice A0 (d0.length) (c0)), (1, Value.slice A1 (d1.length) (c1)), (4, Value.bool false), (5, Value.slice A6 ((List.replicate d1.length ([] : List DStart)).length) (c6))]) (fun g => [(106, (g.2.2)), (0, mout (wm W) (m0)), (1, m0)]) (fun g => ((g.1) ≤ d1.length) ∧ ((g.2.1) = d1.take (g.1) ++ List.replicate (d1.length - (g.1)) []) ∧ (Ow (.sl (.sl TStart)) (g.2.2) [.slice A6 ((List.replicate d1.length ([] : List DStart)).length) (c6)] (g.2.1))) (fun g => d1.length - (g.1)) (0, List.replicate d1.length ([] : List DStart), m6) (⟨by omega, by simp, hk6⟩) ⟨⟨rfl, rfl, rfl, rfl, rfl, rfl, trivial⟩, fun _ h => h.sub [106, 0, 1]⟩ ?_
  rintro ⟨i, was, was_m⟩ ⟨hi, hw, h_was⟩
  replace hi : i ≤ d1.length := hi
  replace hw : was = d1.take i ++ List.replicate (d1.length - i) [] := hw
  replace h_was : Ow (.sl (.sl TStart)) was_m [.slice A6 ((List.replicate d1.length ([] : List DStart)).length) (c6)] was := h_was
  show VC _ _ _ _ _ [(5, Value.slice A6 ((List.replicate d1.length ([] : List DStart)).length) (c6)), (6, Value.int .i64 (((i : Nat) : Int))), (0, Value.slice A0 (d0.length) (c0)), (1, Value.slice A1 (d1.length) (c1)), (4, Value.bool false), (5, Value.slice A6 ((List.replicate d1.length ([] : List DStart)).length) (c6))] [(106, was_m), (0, mout (wm W) (m0)), (1, m0)]
  have ll_was := slice_len h_was
  refine VC.seq ?_
  refine VC.rs ?_
  refine VO.mv ?_
  refine VO.mv ?_
  refine VO.y rfl (.lenS rfl tsl51) ?_
  refine VO.y rfl (.lss rfl rfl) ?_
  refine VO.k6 0 1 4 5 6 16 ?_
  refine VC.cond rfl (fun hc7 => ?_) (fun hc7 => ?_)
  · -- T
    refine VC.skip ?_
    refine outN ?_
    refine VC.seq ?_
    refine VC.block ?_
    refine VC.reg ?_
    refine VO.mv ?_
    refine VO.mv ?_
    refine VO.mv ?_
    refine VO.mv ?_
    obtain ⟨x8, hx8⟩ : ∃ z_, (d1)[i]? = some z_ := ⟨_, List.getElem?_eq_getElem (by exact fin0_ApartStarts_ok)⟩
    obtain ⟨gg8, oo8, ec8, ea8, hce8, hre8⟩ := h1.elem hx8
    cases ea8
    have hr8 := hre8
    obtain ⟨A8_, c8_, rfl, _⟩ := hre8
    have rr8 := Rd.room hr8
    refine VO.y rfl (.ixI i rfl rfl tsl51 rfl (by exact fin0_ApartStarts_ok)) ?_
    refine VO.y rfl (.ld1 0 rfl tk23 rfl hce8) ?_
    refine VO.callN 109 rfl fnOk61 rfl (fun W hW => CopyStarts_ok W (Rd.mono hr8 (hW.at (i := 0) rfl)) (by exact fin0_ApartStarts_ok)) (fun v9 m9 hv9 => ?_)
    obtain ⟨s9_0, rfl, f9_0⟩ := hv9
    obtain ⟨A9_0, c9_0, eq9_0, l9_0, k9_0⟩ := f9_0.slice
    subst eq9_0
    simp only [maxLen] at k9_0
    obtain ⟨x10, hx10⟩ : ∃ z_, (was)[i]? = some z_ := ⟨_, List.getElem?_eq_getElem (by exact fin0_ApartStarts_ok)⟩
    obtain ⟨gg10, oo10, ec10, ea10, hce10, hre10⟩ := (Ow.rd h_was (mle_refl _)).elem hx10
    cases ea10
    have hr10 := hre10
    obtain ⟨A10_, c10_, rfl, _⟩ := hre10
    have rr10 := Rd.room hr10
    refine VO.y rfl (.ixI i rfl rfl tsl51 rfl (by exact fin0_ApartStarts_ok)) ?_
    refine VO.setE (e := (.sl TStart)) (k := 1) (i := i) 106 109 rfl rfl (.inr ⟨tk23, rfl⟩) rfl rfl rfl rfl h_was rfl hx10 (x' := x8) (Ow.up (OwnL.ow (Ow.ownl f9_0 rfl mnil) rfl) ((Seps.one (mle_refl _)).1 _ (.head _))) (fun mu11 hu11 => ?_)
    have hl11 := slice_len hu11
    refine VO.k6 0 1 4 5 6 16 ?_
    refine outBN ?_
    refine outN ?_
    refine VC.reg ?_
    refine VO.mv ?_
    refine VO.y rfl (.add (c := ((i + 1 : Nat) : Int)) rfl rfl (by omega) ⟨by exact fin0_ApartStarts_ok, by exact fin0_ApartStarts_ok⟩) ?_
    refine VO.as ?_
    refine VO.keep [106, 0, 1] [(106, mu11), (0, mout (wm W) (m0)), (1, m0)] (by kernel_rfl) ?_
    refine VO.k6 0 1 4 5 6 16 ?_
    exact outN ⟨⟨i + 1, (was).set i x8, mu11⟩, ⟨by omega, by exact fill_next hw ‹d1[i]? = some _›, hu11⟩, by exact fin0_ApartStarts_ok, ⟨⟨rfl, rfl, rfl, rfl, rfl, rfl, trivial⟩, fun _ h => Inv.sub h [106, 0, 1]⟩⟩
  · -- F
    refine VC.exit ?_
    refine outE ?_
    refine outE ?_
    refine outBB ?_
    refine outN ?_
    refine VC.seq ?_
    refine VC.rs ?_
    refine VO.as ?_
    refine VO.k7 0 1 4 5 6 7 16 ?_
    refine VC.block ?_
    refine VC.loop (G := Nat × (List DStart) × Mem) (fun g => [(0, Value.slice A0 (d0.length) (c0)), (7, Value.int .i64 ((((g.1) : Nat) : Int))), (0, Value.slice A0 (d0.length) (c0)), (1, Value.slice A1 (d1.length) (c1)), (4, Value.bool false), (5, Value.slice A6 ((List.replicate d1.length ([] : List DStart)).length) (c6)), (6, Value.int .i64 (((i : Nat) : Int))), (16, Value.bool (decide (((i : Nat) : Int) < ((d1.length : Nat) : Int))))]) (fun g => [(106, was_m), (0, mout (wm W) (m0)), (1, (g.2.2))]) (fun g => ((g.1) ≤ d0.length) ∧ ((g.2.1) = (d0.take (g.1)).map overS ++ d0.drop (g.1)) ∧ (OwnL TStart (g.2.2) mnil (.slice A0 (d0.length) (c0)) (g.2.1))) (fun g => d0.length - (g.1)) (0, d0, m0) (⟨by omega, by simp, (Ow.ownl h0 rfl mnil)⟩) ⟨⟨rfl, rfl, rfl, rfl, rfl, rfl, rfl, rfl, trivial⟩, fun _ h => h.sub [106, 0, 1]⟩ ?_
    rintro ⟨k, l, l_m⟩ ⟨hk, hl, h_l⟩
    replace hk : k ≤ d0.length := hk
    replace hl : l = (d0.take k).map overS ++ d0.drop k := hl
    replace h_l : OwnL TStart l_m mnil (.slice A0 (d0.length) (c0)) l := h_l
    show VC _ _ _ _ _ [(0, Value.slice A0 (d0.length) (c0)), (7, Value.int .i64 (((k : Nat) : Int))), (0, Value.slice A0 (d0.length) (c0)), (1, Value.slice A1 (d1.length) (c1)), (4, Value.bool false), (5, Value.slice A6 ((List.replicate d1.length ([] : List DStart)).length) (c6)), (6, Value.int .i64 (((i : Nat) : Int))), (16, Value.bool (decide (((i : Nat) : Int) < ((d1.length : Nat) : Int))))] [(106, was_m), (0, mout (wm W) (m0)), (1, l_m)]
    have ll_l := slice_len (OwnL.ow h_l rfl)
    refine VC.seq ?_
    refine VC.rs ?_
    refine VO.mv ?_
    refine VO.mv ?_
    refine VO.y rfl (.lenS rfl tsl23) ?_
    refine VO.y rfl (.lss rfl rfl) ?_
    refine VO.keep [106, 0, 1] [(106, was_m), (0, mout (wm W) (m0)), (1, l_m)] (by kernel_rfl) ?_
    refine VO.k8 0 1 4 5 6 7 16 30 ?_
    refine VC.cond rfl (fun hc12 => ?_) (fun hc12 => ?_)
    · -- FT
      refine VC.skip ?_
      refine outN ?_
      refine VC.seq ?_
      refine VC.block ?_
      refine VC.reg ?_
      refine VO.mv ?_
      refine VO.mv ?_
      refine VO.mv ?_
      refine VO.mv ?_
      obtain ⟨x13, hx13⟩ : ∃ z_, (l)[k]? = some z_ := ⟨_, List.getElem?_eq_getElem (by exact fin0_ApartStarts_ok)⟩
      obtain ⟨gg13, oo13, ec13, ea13, hce13, hre13⟩ := h_l.elem hx13
      cases ea13
      obtain ⟨rfl, q13_0, q13_1⟩ := open_Start (x0 := x13.1) (x1 := x13.2) hre13
      simp only [inK] at q13_0
      simp only [inK] at q13_1
      refine VO.y rfl (.ixI k rfl rfl tsl23 rfl (by exact fin0_ApartStarts_ok)) ?_
      refine VO.y rfl (.fa rfl tst57 rfl) ?_
      refine VO.y rfl (.ld1 1 rfl tk3 rfl (hce13.at1 (j := 0) rfl)) ?_
      refine VO.y rfl (.cpl rfl ⟨by exact fin0_ApartStarts_ok, by exact fin0_ApartStarts_ok⟩) ?_
      refine VO.y rfl (.ixI k rfl rfl tsl23 rfl (by exact fin0_ApartStarts_ok)) ?_
      refine VO.y rfl (.fa rfl tst57 rfl) ?_
      refine VO.upd (e := TStart) (k := 1) (i := k) (x' := (-x13.1 - 1, x13.2)) 1 0 rfl rfl (.inr ⟨tk3, rfl⟩) rfl rfl rfl (OwnL.ow h_l rfl) rfl hx13 rfl (fun mi ec he => by obtain ⟨rfl, z0, z1⟩ := open_Start (x0 := x13.1) (x1 := x13.2) (he.rd (mle_refl _)); exact Ow.of (m := mnil) rfl (mk_Start (-x13.1 - 1) x13.2 (by simp only [inK]; (exact fin0_ApartStarts_ok)) z1)) (fun mu15 hu15 => ?_)
      have hl15 := slice_len hu15
      refine VO.k8 0 1 4 5 6 7 16 30 ?_
      refine outBN ?_
      refine outN ?_
      refine VC.reg ?_
      refine VO.mv ?_
      refine VO.y rfl (.add (c := ((k + 1 : Nat) : Int)) rfl rfl (by omega) ⟨by exact fin0_ApartStarts_ok, by exact fin0_ApartStarts_ok⟩) ?_
      refine VO.as ?_
      refine VO.k8 0 1 4 5 6 7 16 30 ?_
      exact outN ⟨⟨k + 1, (l).set k (-x13.1 - 1, x13.2), mu15⟩, ⟨by omega, by exact (over_set (f := overS) hl ‹l[k]? = some _›).2, (Ow.ownl hu15 rfl mnil)⟩, by exact fin0_ApartStarts_ok, ⟨⟨rfl, rfl, rfl, rfl, rfl, rfl, rfl, rfl, trivial⟩, fun _ h => Inv.sub h [106, 0, 1]⟩⟩
    · -- FF
      refine VC.exit ?_
      refine outE ?_
      refine outE ?_
      refine outBB ?_
      refine outN ?_
      refine VC.seq ?_
      refine VC.rs ?_
      refine VO.mv ?_
      refine VO.y rfl (.capS rfl tsl23) ?_
      refine VO.as ?_
      refine VO.k9 0 1 4 5 6 7 8 16 30 ?_
      refine VC.block ?_
      refine VC.loop (G := (List DStart) × Mem × Nat) (fun g => [(0, Value.slice A0 ((g.2.2)) (c0)), (1, Value.slice A1 (d1.length) (c1)), (4, Value.bool false), (5, Value.slice A6 ((List.replicate d1.length ([] : List DStart)).length) (c6)), (6, Value.int .i64 (((i : Nat) : Int))), (7, Value.int .i64 (((k : Nat) : Int))), (8, Value.int .i64 (((c0 : Nat) : Int))), (16, Value.bool (decide (((i : Nat) : Int) < ((d1.length : Nat) : Int)))), (30, Value.bool (decide (((k : Nat) : Int) < ((d0.length : Nat) : Int))))]) (fun g => [(106, was_m), (0, mout (wm W) (m0)), (1, (g.2.1))]) (fun g => ((g.2.2) ≤ c0) ∧ (OwnL TStart (g.2.1) mnil (.slice A0 ((g.2.2)) (c0)) (g.1))) (fun g => c0 - (g.2.2)) (l, l_m, d0.length) (⟨by omega, h_l⟩) ⟨⟨rfl, rfl, rfl, rfl, rfl, rfl, rfl, rfl, rfl, trivial⟩, fun _ h => h.sub [106, 0, 1]⟩ ?_
      rintro ⟨l2, l2_m, l2_n⟩ ⟨hc, h_l2⟩
      replace hc : l2_n ≤ c0 := hc
      replace h_l2 : OwnL TStart l2_m mnil (.slice A0 (l2_n) (c0)) l2 := h_l2
      show VC _ _ _ _ _ [(0, Value.slice A0 (l2_n) (c0)), (1, Value.slice A1 (d1.length) (c1)), (4, Value.bool false), (5, Value.slice A6 ((List.replicate d1.length ([] : List DStart)).length) (c6)), (6, Value.int .i64 (((i : Nat) : Int))), (7, Value.int .i64 (((k : Nat) : Int))), (8, Value.int .i64 (((c0 : Nat) : Int))), (16, Value.bool (decide (((i : Nat) : Int) < ((d1.length : Nat) : Int)))), (30, Value.bool (decide (((k : Nat) : Int) < ((d0.length : Nat) : Int))))] [(106, was_m), (0, mout (wm W) (m0)), (1, l2_m)]
      have ll_l2 := slice_len (OwnL.ow h_l2 rfl)
      refine VC.seq ?_
      refine VC.rs ?_
      refine VO.mv ?_
      refine VO.y rfl (.lenS rfl tsl23) ?_
      refine VO.mv ?_
      refine VO.y rfl (.lss rfl rfl) ?_
      refine VO.k10 0 1 4 5 6 7 8 16 30 48 ?_
      refine VC.cond rfl (fun hc16 => ?_) (fun hc16 => ?_)
      · -- FFT
        refine VC.skip ?_
        refine outN ?_
        refine VC.block ?_
        refine VC.reg ?_
        refine VO.mv ?_
        refine VO.y rfl (.bst (cs := [Value.int .i64 (55), Value.int .i64 (0)]) rfl tst57 tz57 rfl) ?_
        refine VO.bsl (cs := [Value.int .i64 (55), Value.int .i64 (0)]) 118 rfl rfl tsl23 tz57 rfl rfl (fun g17 => ?_)
        refine VO.inv ((120, mnil) :: _) (fun _ h => h.nilc 120) ?_
        have hxl19 := slice_len (OwnL.ow h_l2 rfl)
        refine VO.appI (e := TStart) (xs := l2) (cap := c0) (A := A0) (l := l2_n) 1 120 118 rfl rfl rfl tsl23 rfl rfl rfl (OwnL.ow h_l2 rfl) (Ow.of (m := mnil) rfl (mk_Start (m := _) 55 0 (by simp only [inK]; (exact fin0_ApartStarts_ok)) (by simp only [inK]; (exact fin0_ApartStarts_ok)))) Try.underlying23 (cellsAt_one rfl rfl) (by exact fin0_ApartStarts_ok) (fun m19 ho19 => ?_)
        refine VO.as ?_
        refine VO.keep [1, 106, 0] [(1, m19), (106, was_m), (0, mout (wm W) (m0))] (by kernel_rfl) ?_
        refine VO.k10 0 1 4 5 6 7 8 16 30 48 ?_
        refine outBN ?_
        exact outN ⟨⟨l2 ++ [(55, 0)], m19, l2_n + 1⟩, ⟨by dsimp only; omega, (Ow.ownl ho19 rfl mnil)⟩, by (dsimp only; omega), ⟨⟨rfl, rfl, rfl, rfl, rfl, rfl, rfl, rfl, rfl, trivial⟩, fun _ h => Inv.sub h [106, 0, 1]⟩⟩
      · -- FFF
        refine VC.exit ?_
        refine outE ?_
        refine outE ?_
        refine outBB ?_
        refine outN ?_
        refine VC.seq ?_
        refine VC.rs ?_
        refine VO.as ?_
        refine VO.keep [106, 0, 1] [(106, was_m), (0, mout (wm W) (m0)), (1, l2_m)] (by kernel_rfl) ?_
        refine VO.k11 0 1 4 5 6 7 8 9 16 30 48 ?_
        refine VC.block ?_
        refine VC.loop (G := Nat) (fun p => [(9, Value.int .i64 (((p : Nat) : Int))), (0, Value.slice A0 (l2_n) (c0)), (1, Value.slice A1 (d1.length) (c1)), (5, Value.slice A6 ((List.replicate d1.length ([] : List DStart)).length) (c6)), (6, Value.int .i64 (((i : Nat) : Int))), (7, Value.int .i64 (((k : Nat) : Int))), (8, Value.int .i64 (((c0 : Nat) : Int))), (16, Value.bool (decide (((i : Nat) : Int) < ((d1.length : Nat) : Int)))), (30, Value.bool (decide (((k : Nat) : Int) < ((d0.length : Nat) : Int)))), (48, Value.bool (decide (((l2_n : Nat) : Int) < ((c0 : Nat) : Int))))]) (fun p => [(106, was_m), (0, mout (wm W) (m0)), (1, l2_m)]) (fun p => (was = d1) ∧ (p ≤ d1.length)) (fun p => d1.length - p) 0 (⟨by exact fill_all hw (by omega), by omega⟩) ⟨⟨rfl, rfl, rfl, rfl, rfl, rfl, rfl, rfl, rfl, rfl, trivial⟩, fun _ h => h.sub [106, 0, 1]⟩ ?_
        rintro p ⟨hw2, hp⟩
        refine VC.seq ?_
        refine VC.rs ?_
        refine VO.mv ?_
        refine VO.mv ?_
        refine VO.y rfl (.lenS rfl tsl51) ?_
        refine VO.y rfl (.lss rfl rfl) ?_
        refine VO.k11 0 1 5 6 7 8 9 16 30 48 56 ?_
        refine VC.cond rfl (fun hc21 => ?_) (fun hc21 => ?_)
        · -- FFFT
          refine VC.skip ?_
          refine outN ?_
          refine VC.seq ?_
          refine VC.block ?_
          refine VC.seq ?_
          refine VC.regD _ 8 [(0, true), (1, true), (2, true), (3, true), (4, true), (5, true), (6, true), (7, true)] follows (by kernel_rfl) (fun _ h => h.sub [106, 0, 1]) ?_
          refine VD.y rfl rfl (.inl rfl) (.mv rfl) ?_
          refine VD.y rfl rfl (.inl rfl) (.mv rfl) ?_
          obtain ⟨x22, hx22⟩ : ∃ z_, (d1)[p]? = some z_ := ⟨_, List.getElem?_eq_getElem (by exact fin0_ApartStarts_ok)⟩
          obtain ⟨gg22, oo22, ec22, ea22, hce22, hre22⟩ := h1.elem hx22
          cases ea22
          have hr22 := hre22
          obtain ⟨A22_, c22_, rfl, _⟩ := hre22
          have rr22 := Rd.room hr22
          refine VD.y rfl rfl (.inl rfl) (.ixI p rfl rfl tsl51 rfl (by exact fin0_ApartStarts_ok)) ?_
          refine VD.y rfl rfl (.inl rfl) (.ld1 0 rfl tk23 rfl hce22) ?_
          refine VD.y rfl rfl (.inl rfl) (.mv rfl) ?_
          refine VD.y rfl rfl (.inl rfl) (.mv rfl) ?_
          obtain ⟨x23, hx23⟩ : ∃ z_, (was)[p]? = some z_ := ⟨_, List.getElem?_eq_getElem (by exact fin0_ApartStarts_ok)⟩
          obtain ⟨gg23, oo23, ec23, ea23, hce23, hre23⟩ := (Ow.rd h_was (mle_refl _)).elem hx23
          cases ea23
          have hr23 := hre23
          obtain ⟨A23_, c23_, rfl, _⟩ := hre23
          have rr23 := Rd.room hr23
          refine VD.y rfl rfl (.inl rfl) (.ixI p rfl rfl tsl51 rfl (by exact fin0_ApartStarts_ok)) ?_
          refine VD.y rfl rfl (.inl rfl) (.ld1 106 rfl tk23 rfl hce23) ?_
          refine VD.nil rfl ?_ rfl
          refine VO.callN 124 rfl fnOk55 rfl (fun W hW => SameStarts_ok W (Rd.mono hr22 (hW.at (i := 0) rfl)) (Rd.mono hr23 (hW.at (i := 106) rfl))) (fun v24 m24 hv24 => ?_)
          subst hv24
          refine VO.y rfl (.notD rfl) ?_
          refine VO.k12 0 1 5 6 7 8 9 16 30 48 56 68 ?_
          refine outN ?_
          refine VC.cond rfl (fun hc25 => ?_) (fun hc25 => ?_)
          · -- FFFTT
            exact absurd (by have h_ := ‹was[p]? = some _›; rw [hw2] at h_; exact Option.some.inj (‹d1[p]? = some _›.symm.trans h_)) hc25
          · -- FFFTF
            refine VC.skip ?_
            refine outBN ?_
            refine outN ?_
            refine VC.reg ?_
            refine VO.mv ?_
            refine VO.y rfl (.add (c := ((p + 1 : Nat) : Int)) rfl rfl (by omega) ⟨by exact fin0_ApartStarts_ok, by exact fin0_ApartStarts_ok⟩) ?_
            refine VO.as ?_
            refine VO.keep [106, 0, 1] [(106, was_m), (0, mout (wm W) (m0)), (1, l2_m)] (by kernel_rfl) ?_
            refine VO.k12 0 1 5 6 7 8 9 16 30 48 56 68 ?_
            exact outN ⟨p + 1, ⟨by exact hw2, by omega⟩, by exact fin0_ApartStarts_ok, ⟨⟨rfl, rfl, rfl, rfl, rfl, rfl, rfl, rfl, rfl, rfl, trivial⟩, fun _ h => Inv.sub h [106, 0, 1]⟩⟩
        · -- FFFF
          refine VC.exit ?_
          refine outE ?_
          refine outE ?_
          refine outBB ?_
          refine outN ?_
          refine VC.rs ?_
          refine VO.as ?_
          refine VO.k12 0 1 4 5 6 7 8 9 16 30 48 56 ?_
          refine VC.ret ?_
          refine ⟨_, _, res_run (rs := [.tmp 4]) rfl (.tmp rfl .nil), fun W_ hI => out_of (l := []) hI [] rfl rfl (mle_refl _) (fun hS_ => ?_)⟩
          dsimp only [packV]
          all_goals (first | rfl | (simp [*]; done))
end
section
set_option linter.unusedVariables false
set_option linter.unusedSimpArgs false
set_option maxRecDepth 4000
set_option maxHeartbeats 2000000 in
theorem letterReads_ok (W : World) {v0 : Value} {d0 : List UInt8} (h0 : Rd (.sl .byte) (wm W) [v0] d0) : CallR Try.prog 5 [v0] W (mnil) (fun v m' => v = .bool true) := by
  obtain ⟨A0, c0, rfl, l0, k0⟩ := h0.slice
  simp only [maxLen] at k0
  refine CallR.ofA (n := 69) Try.func5 rfl rfl rfl ?_
  refine VC.rs ?_
  refine VO.as ?_
  refine VO.k2 0 2 ?_
  refine VC.seq ?_
  refine VC.rs ?_
  refine VO.mv ?_
  refine VO.y rfl (.lenS rfl tsl30) ?_
  refine VO.y rfl (.gtr rfl rfl) ?_
  refine VO.k3 0 2 12 ?_
  refine VC.cond rfl (fun hc1 => ?_) (fun hc1 => ?_)
  · -- T
    refine VC.rs ?_
    refine VO.callN 102 rfl fnOk8 rfl (fun W hW => lives11_ok W ) (fun v2 m2 hv2 => ?_)
    subst hv2
    refine VO.as ?_
    refine VO.keep [0] [(0, wm W)] (by kernel_rfl) ?_
    refine VO.k3 0 2 12 ?_
    refine VC.ret ?_
    refine outR ?_
    refine ⟨_, _, res_run (rs := [.tmp 2]) rfl (.tmp rfl .nil), fun W_ hI => out_of (l := []) hI [] rfl rfl (mle_refl _) (fun hS_ => ?_)⟩
    dsimp only [packV]
    all_goals (first | rfl | (simp [*]; done))
  · -- F
    refine VC.skip ?_
    refine outN ?_
    refine VC.rs ?_
    refine VO.mv ?_
    refine VO.callN 103 rfl fnOk21 rfl (fun W hW => LentBytes_ok W (Rd.mono h0 (hW.at (i := 0) rfl)) bd) (fun v3 m3 hv3 => ?_)
    obtain ⟨s3_0, rfl, f3_0⟩ := hv3
    obtain ⟨A3_0, c3_0, eq3_0, l3_0, k3_0⟩ := f3_0.slice
    subst eq3_0
    simp only [maxLen] at k3_0
    refine VO.as ?_
    refine VO.keep [103, 0] [(103, m3), (0, wm W)] (by kernel_rfl) ?_
    refine VO.k4 0 2 3 12 ?_
    refine VC.rs ?_
    refine VO.mv ?_
    refine VO.mv ?_
    refine VO.y rfl (.lenS rfl tsl30) ?_
    have hs4 := (OwnL.rd (Ow.ownl f3_0 rfl mnil) (mle_refl _) (mle_nil _)).pre (j := d0.length) bd
    rw [List.take_left] at hs4
    refine VO.y rfl (.slHI d0.length rfl rfl tsl30 rfl bd) ?_
    refine VO.callN 105 rfl fnOk20 rfl (fun W hW => lDec_ok W (OwnL.rd (by have h_ := ((Ow.ownl f3_0 rfl mnil).pre (j := d0.length) bd); rw [List.take_left] at h_; exact h_) (hW.at (i := 103) rfl) (mle_nil _))) (fun v5 m5 hv5 => ?_)
    obtain ⟨s5_0, rfl, f5_0⟩ := hv5
    have hfa6 := lDec_fits d0
    obtain ⟨q5_0_A4, q5_0_c4, q5_0_A7, q5_0_c7, q5_0_n4, q5_0_n7, rfl, q5_0_S, q5_0_0, q5_0_1, q5_0_2, q5_0_3, q5_0_4, q5_0_5, q5_0_6, q5_0_7⟩ := openO_Message (x0 := ((lDec d0).1).1) (x1 := ((lDec d0).1).2.1) (x2 := ((lDec d0).1).2.2.1) (x3 := ((lDec d0).1).2.2.2.1) (x4 := ((lDec d0).1).2.2.2.2.1) (x5 := ((lDec d0).1).2.2.2.2.2.1) (x6 := ((lDec d0).1).2.2.2.2.2.2.1) (x7 := ((lDec d0).1).2.2.2.2.2.2.2) f5_0
    simp only [inK] at q5_0_0
    simp only [inK] at q5_0_1
    simp only [inK] at q5_0_2
    simp only [inK] at q5_0_3
    have q5_0_r4 := Rd.room (q5_0_4.rd (mle_refl _))
    simp only [inK] at q5_0_5
    simp only [inK] at q5_0_6
    have q5_0_r7 := Rd.room (q5_0_7.rd (mle_refl _))
    refine VO.inv _ (fun _ h => h.parts (i := 105) rfl q5_0_S [107, 108]) ?_
    refine VO.mv ?_
    refine VO.y rfl (.ext rfl rfl) ?_
    refine VO.y rfl (.ext rfl rfl) ?_
    refine VO.alloc 110 rfl tz26 (fun g9 => ?_)
    refine VO.store (k := 8) (c' := [Value.int .i64 (((lDec d0).1).1), Value.int .i64 (((lDec d0).1).2.1), Value.int .u8 (((lDec d0).1).2.2.1), Value.int .i64 (((lDec d0).1).2.2.2.1), Value.slice q5_0_A4 ((((lDec d0).1).2.2.2.2.1).length) (q5_0_c4), Value.int .i64 (((lDec d0).1).2.2.2.2.2.1), Value.int .i64 (((lDec d0).1).2.2.2.2.2.2.1), Value.slice q5_0_A7 ((((lDec d0).1).2.2.2.2.2.2.2).length) (q5_0_c7)]) 110 rfl rfl (.inl tk26) rfl rfl rfl rfl rfl ?_
    refine VO.as ?_
    refine VO.k6 0 2 3 4 5 12 ?_
    refine VC.rs ?_
    refine VO.mv ?_
    refine VO.mv ?_
    refine VO.y rfl (.lenS rfl tsl30) ?_
    have hs11 := (OwnL.rd (Ow.ownl f3_0 rfl mnil) (mle_refl _) (mle_nil _)).pre (j := d0.length) bd
    rw [List.take_left] at hs11
    refine VO.y rfl (.slHI d0.length rfl rfl tsl30 rfl bd) ?_
    refine VO.callN 112 rfl fnOk20 rfl (fun W hW => lDec_ok W (OwnL.rd (by have h_ := ((Ow.ownl f3_0 rfl mnil).pre (j := d0.length) bd); rw [List.take_left] at h_; exact h_) (hW.at (i := 103) rfl) (mle_nil _))) (fun v12 m12 hv12 => ?_)
    obtain ⟨s12_0, rfl, f12_0⟩ := hv12
    have hfa13 := lDec_fits d0
    obtain ⟨q12_0_A4, q12_0_c4, q12_0_A7, q12_0_c7, q12_0_n4, q12_0_n7, rfl, q12_0_S, q12_0_0, q12_0_1, q12_0_2, q12_0_3, q12_0_4, q12_0_5, q12_0_6, q12_0_7⟩ := openO_Message (x0 := ((lDec d0).1).1) (x1 := ((lDec d0).1).2.1) (x2 := ((lDec d0).1).2.2.1) (x3 := ((lDec d0).1).2.2.2.1) (x4 := ((lDec d0).1).2.2.2.2.1) (x5 := ((lDec d0).1).2.2.2.2.2.1) (x6 := ((lDec d0).1).2.2.2.2.2.2.1) (x7 := ((lDec d0).1).2.2.2.2.2.2.2) f12_0
    simp only [inK] at q12_0_0
    simp only [inK] at q12_0_1
    simp only [inK] at q12_0_2
    simp only [inK] at q12_0_3
    have q12_0_r4 := Rd.room (q12_0_4.rd (mle_refl _))
    simp only [inK] at q12_0_5
    simp only [inK] at q12_0_6
    have q12_0_r7 := Rd.room (q12_0_7.rd (mle_refl _))
    refine VO.inv _ (fun _ h => h.parts (i := 112) rfl q12_0_S [114, 115]) ?_
    refine VO.mv ?_
    refine VO.y rfl (.ext rfl rfl) ?_
    refine VO.y rfl (.ext rfl rfl) ?_
    refine VO.alloc 117 rfl tz26 (fun g16 => ?_)
    refine VO.store (k := 8) (c' := [Value.int .i64 (((lDec d0).1).1), Value.int .i64 (((lDec d0).1).2.1), Value.int .u8 (((lDec d0).1).2.2.1), Value.int .i64 (((lDec d0).1).2.2.2.1), Value.slice q12_0_A4 ((((lDec d0).1).2.2.2.2.1).length) (q12_0_c4), Value.int .i64 (((lDec d0).1).2.2.2.2.2.1), Value.int .i64 (((lDec d0).1).2.2.2.2.2.2.1), Value.slice q12_0_A7 ((((lDec d0).1).2.2.2.2.2.2.2).length) (q12_0_c7)]) 117 rfl rfl (.inl tk26) rfl rfl rfl rfl rfl ?_
    refine VO.as ?_
    refine VO.k7 0 2 3 4 5 6 12 ?_
    refine VC.rs ?_
    refine VO.mv ?_
    refine VO.callN 118 rfl fnOk22 rfl (fun W hW => lDec11_ok W (Rd.mono h0 (hW.at (i := 0) rfl))) (fun v18 m18 hv18 => ?_)
    obtain ⟨s18_0, rfl, f18_0⟩ := hv18
    obtain ⟨q18_0_A4, q18_0_c4, q18_0_A7, q18_0_c7, q18_0_n4, q18_0_n7, rfl, q18_0_S, q18_0_0, q18_0_1, q18_0_2, q18_0_3, q18_0_4, q18_0_5, q18_0_6, q18_0_7⟩ := openO_Message (x0 := ((lDec d0).1).1) (x1 := ((lDec d0).1).2.1) (x2 := ((lDec d0).1).2.2.1) (x3 := ((lDec d0).1).2.2.2.1) (x4 := ((lDec d0).1).2.2.2.2.1) (x5 := ((lDec d0).1).2.2.2.2.2.1) (x6 := ((lDec d0).1).2.2.2.2.2.2.1) (x7 := ((lDec d0).1).2.2.2.2.2.2.2) f18_0
    simp only [inK] at q18_0_0
    simp only [inK] at q18_0_1
    simp only [inK] at q18_0_2
    simp only [inK] at q18_0_3
    have q18_0_r4 := Rd.room (q18_0_4.rd (mle_refl _))
    simp only [inK] at q18_0_5
    simp only [inK] at q18_0_6
    have q18_0_r7 := Rd.room (q18_0_7.rd (mle_refl _))
    refine VO.inv _ (fun _ h => h.parts (i := 118) rfl q18_0_S [119, 120]) ?_
    refine VO.mv ?_
    refine VO.y rfl (.ext rfl rfl) ?_
    refine VO.y rfl (.ext rfl rfl) ?_
    refine VO.alloc 122 rfl tz26 (fun g21 => ?_)
    refine VO.store (k := 8) (c' := [Value.int .i64 (((lDec d0).1).1), Value.int .i64 (((lDec d0).1).2.1), Value.int .u8 (((lDec d0).1).2.2.1), Value.int .i64 (((lDec d0).1).2.2.2.1), Value.slice q18_0_A4 ((((lDec d0).1).2.2.2.2.1).length) (q18_0_c4), Value.int .i64 (((lDec d0).1).2.2.2.2.2.1), Value.int .i64 (((lDec d0).1).2.2.2.2.2.2.1), Value.slice q18_0_A7 ((((lDec d0).1).2.2.2.2.2.2.2).length) (q18_0_c7)]) 122 rfl rfl (.inl tk26) rfl rfl rfl rfl rfl ?_
    refine VO.as ?_
    refine VO.keep [122, 119, 120, 117, 114, 115, 110, 107, 108, 103, 0] [(122, mone g21 (.cells [Value.int .i64 (((lDec d0).1).1), Value.int .i64 (((lDec d0).1).2.1), Value.int .u8 (((lDec d0).1).2.2.1), Value.int .i64 (((lDec d0).1).2.2.2.1), Value.slice q18_0_A4 ((((lDec d0).1).2.2.2.2.1).length) (q18_0_c4), Value.int .i64 (((lDec d0).1).2.2.2.2.2.1), Value.int .i64 (((lDec d0).1).2.2.2.2.2.2.1), Value.slice q18_0_A7 ((((lDec d0).1).2.2.2.2.2.2.2).length) (q18_0_c7)].toArray 26 (0, 0))), (119, q18_0_n4), (120, q18_0_n7), (117, mone g16 (.cells [Value.int .i64 (((lDec d0).1).1), Value.int .i64 (((lDec d0).1).2.1), Value.int .u8 (((lDec d0).1).2.2.1), Value.int .i64 (((lDec d0).1).2.2.2.1), Value.slice q12_0_A4 ((((lDec d0).1).2.2.2.2.1).length) (q12_0_c4), Value.int .i64 (((lDec d0).1).2.2.2.2.2.1), Value.int .i64 (((lDec d0).1).2.2.2.2.2.2.1), Value.slice q12_0_A7 ((((lDec d0).1).2.2.2.2.2.2.2).length) (q12_0_c7)].toArray 26 (0, 0))), (114, q12_0_n4), (115, q12_0_n7), (110, mone g9 (.cells [Value.int .i64 (((lDec d0).1).1), Value.int .i64 (((lDec d0).1).2.1), Value.int .u8 (((lDec d0).1).2.2.1), Value.int .i64 (((lDec d0).1).2.2.2.1), Value.slice q5_0_A4 ((((lDec d0).1).2.2.2.2.1).length) (q5_0_c4), Value.int .i64 (((lDec d0).1).2.2.2.2.2.1), Value.int .i64 (((lDec d0).1).2.2.2.2.2.2.1), Value.slice q5_0_A7 ((((lDec d0).1).2.2.2.2.2.2.2).length) (q5_0_c7)].toArray 26 (0, 0))), (107, q5_0_n4), (108, q5_0_n7), (103, m3), (0, wm W)] (by kernel_rfl) ?_
    refine VO.k9 0 2 3 4 5 6 8 9 12 ?_
    refine VC.rs ?_
    refine VO.callN 123 rfl fnOk8 rfl (fun W hW => lives11_ok W ) (fun v23 m23 hv23 => ?_)
    subst hv23
    refine VO.mv ?_
    refine VO.gy rfl ⟨_, rfl, rfl⟩ (.mv rfl) ?_
    refine VO.gy rfl ⟨_, rfl, rfl⟩ (.mv rfl) ?_
    refine VO.gy rfl ⟨_, rfl, rfl⟩ (.eql rfl rfl) ?_
    refine VO.y rfl (.pT rfl rfl) ?_
    refine VO.mv ?_
    refine VO.dec (t := 43) rfl (fun hc24 => ?_) (fun hc24 => ?_)
    · -- FT
      refine VO.gy rfl ⟨_, rfl, rfl⟩ (.ldA 110 rfl tk26 rfl (cellsAt_one rfl rfl)) ?_
      refine VO.gy rfl ⟨_, rfl, rfl⟩ (.ldA 122 rfl tk26 rfl (cellsAt_one rfl rfl)) ?_
      refine VO.gcallN 125 rfl ⟨_, rfl, rfl⟩ fnOk23 rfl (fun W hW => SameMessage_ok W (show Rd TMessage _ _ ((lDec d0).1) from (mk_Message (m := wm W) (((lDec d0).1).1) (((lDec d0).1).2.1) (((lDec d0).1).2.2.1) (((lDec d0).1).2.2.2.1) (((lDec d0).1).2.2.2.2.1) (((lDec d0).1).2.2.2.2.2.1) (((lDec d0).1).2.2.2.2.2.2.1) (((lDec d0).1).2.2.2.2.2.2.2) bdk bdk bdk bdk (OwnL.rd (Ow.ownl q5_0_4 rfl mnil) (hW.at (i := 107) rfl) (mle_nil _)) bdk bdk (Ow.rd q5_0_7 (hW.at (i := 108) rfl)))) (show Rd TMessage _ _ ((lDec d0).1) from (mk_Message (m := wm W) (((lDec d0).1).1) (((lDec d0).1).2.1) (((lDec d0).1).2.2.1) (((lDec d0).1).2.2.2.1) (((lDec d0).1).2.2.2.2.1) (((lDec d0).1).2.2.2.2.2.1) (((lDec d0).1).2.2.2.2.2.2.1) (((lDec d0).1).2.2.2.2.2.2.2) bdk bdk bdk bdk (OwnL.rd (Ow.ownl q18_0_4 rfl mnil) (hW.at (i := 119) rfl) (mle_nil _)) bdk bdk (Ow.rd q18_0_7 (hW.at (i := 120) rfl))))) (fun v25 m25 hv25 => ?_)
      subst hv25
      refine VO.y rfl (.pT rfl rfl) ?_
      refine VO.mv ?_
      refine VO.dec (t := 48) rfl (fun hc26 => ?_) (fun hc26 => ?_)
      · -- FTT
        refine VO.gy rfl ⟨_, rfl, rfl⟩ (.mv rfl) ?_
        refine VO.gy rfl ⟨_, rfl, rfl⟩ (.mv rfl) ?_
        refine VO.gcallN 127 rfl ⟨_, rfl, rfl⟩ fnOk24 rfl (fun W hW => KeptBytes_ok W (OwnL.rd (Ow.ownl f3_0 rfl mnil) (hW.at (i := 103) rfl) (mle_nil _)) (Rd.mono h0 (hW.at (i := 0) rfl)) bd) (fun v27 m27 hv27 => ?_)
        subst hv27
        refine VO.y rfl (.pT rfl rfl) ?_
        refine VO.mv ?_
        refine VO.dec (t := 53) rfl (fun hc28 => ?_) (fun hc28 => ?_)
        · -- FTTT
          refine VO.gy rfl ⟨_, rfl, rfl⟩ (.fa rfl tst26 rfl) ?_
          refine VO.gy rfl ⟨_, rfl, rfl⟩ (.ld1 110 rfl tk24 rfl (cellsAt_one rfl rfl)) ?_
          refine VO.gy rfl ⟨_, rfl, rfl⟩ (.fa rfl tst26 rfl) ?_
          refine VO.gy rfl ⟨_, rfl, rfl⟩ (.ld1 117 rfl tk24 rfl (cellsAt_one rfl rfl)) ?_
          refine VO.gbsl (cs := [Value.slice q5_0_A7 ((((lDec d0).1).2.2.2.2.2.2.2).length) (q5_0_c7), Value.slice q12_0_A7 ((((lDec d0).1).2.2.2.2.2.2.2).length) (q12_0_c7)]) 130 rfl ⟨_, rfl, rfl⟩ rfl tsl49 tz24 rfl rfl (fun g29 => ?_)
          refine VO.gather (l := [mone g29 (.cells [Value.slice q5_0_A7 ((((lDec d0).1).2.2.2.2.2.2.2).length) (q5_0_c7), Value.slice q12_0_A7 ((((lDec d0).1).2.2.2.2.2.2.2).length) (q12_0_c7)].toArray 24 (0, 0)), q5_0_n7, q12_0_n7]) 133 [130, 108, 115] rfl (fun hg32 => ?_)
          have ho32 : Ow (.sl (.sl TCommit)) (muns [mone g29 (.cells [Value.slice q5_0_A7 ((((lDec d0).1).2.2.2.2.2.2.2).length) (q5_0_c7), Value.slice q12_0_A7 ((((lDec d0).1).2.2.2.2.2.2.2).length) (q12_0_c7)].toArray 24 (0, 0)), q5_0_n7, q12_0_n7]) [Value.slice (some ⟨g29, 0, none⟩) (2) (2)] [((lDec d0).1).2.2.2.2.2.2.2, ((lDec d0).1).2.2.2.2.2.2.2] := Ow.lit 2 (Seps.grp1 (ls := [[q5_0_n7], [q12_0_n7]]) hg32) (OwAs.cons (m := muns [q5_0_n7]) (c1 := [Value.slice q5_0_A7 ((((lDec d0).1).2.2.2.2.2.2.2).length) (q5_0_c7)]) (Ow.up q5_0_7 ((Seps.self hg32 (List.Sublist.cons _ (List.Sublist.cons_cons _ (List.Sublist.cons _ List.Sublist.slnil)))).1 _ (.head _))) (OwAs.cons (m := muns [q12_0_n7]) (c1 := [Value.slice q12_0_A7 ((((lDec d0).1).2.2.2.2.2.2.2).length) (q12_0_c7)]) (Ow.up q12_0_7 ((Seps.self hg32 (List.Sublist.cons _ (List.Sublist.cons _ (List.Sublist.cons_cons _ List.Sublist.slnil)))).1 _ (.head _))) OwAs.nil)) rfl rfl
          refine VO.gcall 133 rfl ⟨_, rfl, rfl⟩ fnOk25 rfl rfl (fun W hW => ApartCommits_ok W (hW.at (i := 133) rfl) ho32 bd (by exact two_dec_l d0) (by exact two_dec_a d0) (by exact two_dec_b d0)) (fun v31 m31 hv31 => ?_)
          subst hv31
          refine VO.y rfl (.pT rfl rfl) ?_
          refine VO.mv ?_
          refine VO.gy rfl ⟨_, rfl, rfl⟩ (.fa rfl tst26 rfl) ?_
          refine VO.gy rfl ⟨_, rfl, rfl⟩ (.ld1 110 rfl tk23 rfl (cellsAt_one rfl rfl)) ?_
          refine VO.gy rfl ⟨_, rfl, rfl⟩ (.fa rfl tst26 rfl) ?_
          refine VO.gy rfl ⟨_, rfl, rfl⟩ (.ld1 117 rfl tk23 rfl (cellsAt_one rfl rfl)) ?_
          refine VO.gbsl (cs := [Value.slice q12_0_A4 ((((lDec d0).1).2.2.2.2.1).length) (q12_0_c4)]) 135 rfl ⟨_, rfl, rfl⟩ rfl tsl51 tz23 rfl rfl (fun g34 => ?_)
          refine VO.gather (l := [mone g34 (.cells [Value.slice q12_0_A4 ((((lDec d0).1).2.2.2.2.1).length) (q12_0_c4)].toArray 23 (0, 0)), q12_0_n4]) 138 [135, 114] rfl (fun hg37 => ?_)
          have ho37 : Ow (.sl (.sl TStart)) (muns [mone g34 (.cells [Value.slice q12_0_A4 ((((lDec d0).1).2.2.2.2.1).length) (q12_0_c4)].toArray 23 (0, 0)), q12_0_n4]) [Value.slice (some ⟨g34, 0, none⟩) (1) (1)] [((lDec d0).1).2.2.2.2.1] := Ow.lit 1 (Seps.grp1 (ls := [[q12_0_n4]]) hg37) (OwAs.cons (m := muns [q12_0_n4]) (c1 := [Value.slice q12_0_A4 ((((lDec d0).1).2.2.2.2.1).length) (q12_0_c4)]) (Ow.up (OwnL.ow (Ow.ownl q12_0_4 rfl mnil) rfl) ((Seps.self hg37 (List.Sublist.cons _ (List.Sublist.cons_cons _ List.Sublist.slnil))).1 _ (.head _))) OwAs.nil) rfl rfl
          refine VO.gcall 107 rfl ⟨_, rfl, rfl⟩ fnOk26 rfl rfl (fun W hW => ApartStarts_ok W (hW.at (i := 107) rfl) (OwnL.ow (Ow.ownl q5_0_4 rfl mnil) rfl) (Ow.rd ho37 (hW.out (i := 107) (j := 138) rfl rfl)) bd (by exact one_dec d0)) (fun v36 m36 hv36 => ?_)
          subst hv36
          refine VO.y rfl (.pT rfl rfl) ?_
          refine VO.as ?_
          refine VO.keep [122, 119, 120, 117, 110, 103, 0] [(122, mone g21 (.cells [Value.int .i64 (((lDec d0).1).1), Value.int .i64 (((lDec d0).1).2.1), Value.int .u8 (((lDec d0).1).2.2.1), Value.int .i64 (((lDec d0).1).2.2.2.1), Value.slice q18_0_A4 ((((lDec d0).1).2.2.2.2.1).length) (q18_0_c4), Value.int .i64 (((lDec d0).1).2.2.2.2.2.1), Value.int .i64 (((lDec d0).1).2.2.2.2.2.2.1), Value.slice q18_0_A7 ((((lDec d0).1).2.2.2.2.2.2.2).length) (q18_0_c7)].toArray 26 (0, 0))), (119, q18_0_n4), (120, q18_0_n7), (117, mone g16 (.cells [Value.int .i64 (((lDec d0).1).1), Value.int .i64 (((lDec d0).1).2.1), Value.int .u8 (((lDec d0).1).2.2.1), Value.int .i64 (((lDec d0).1).2.2.2.1), Value.slice q12_0_A4 ((((lDec d0).1).2.2.2.2.1).length) (q12_0_c4), Value.int .i64 (((lDec d0).1).2.2.2.2.2.1), Value.int .i64 (((lDec d0).1).2.2.2.2.2.2.1), Value.slice q12_0_A7 ((((lDec d0).1).2.2.2.2.2.2.2).length) (q12_0_c7)].toArray 26 (0, 0))), (110, mone g9 (.cells [Value.int .i64 (((lDec d0).1).1), Value.int .i64 (((lDec d0).1).2.1), Value.int .u8 (((lDec d0).1).2.2.1), Value.int .i64 (((lDec d0).1).2.2.2.1), Value.slice q5_0_A4 ((((lDec d0).1).2.2.2.2.1).length) (q5_0_c4), Value.int .i64 (((lDec d0).1).2.2.2.2.2.1), Value.int .i64 (((lDec d0).1).2.2.2.2.2.2.1), Value.slice q5_0_A7 ((((lDec d0).1).2.2.2.2.2.2.2).length) (q5_0_c7)].toArray 26 (0, 0))), (103, m3), (0, wm W)] (by kernel_rfl) ?_
          refine VO.k9 0 2 3 4 5 6 8 9 12 ?_
          refine VC.ret ?_
          refine ⟨_, _, res_run (rs := [.tmp 2]) rfl (.tmp rfl .nil), fun W_ hI => out_of (l := []) hI [] rfl rfl (mle_refl _) (fun hS_ => ?_)⟩
          dsimp only [packV]
          all_goals (first | rfl | (simp [*]; done))
        · -- FTTF
          exact absurd rfl hc28
      · -- FTF
        exact absurd rfl hc26
    · -- FF
      exact absurd rfl hc24
end
section
set_option linter.unusedVariables false
set_option maxRecDepth 4000
open Go.ChangeShapes Go.WideShapes Go.ChangeAt Go.RowKit
theorem letterReads_ok0 : tyOk Try.prog 60 (.sl .byte) (.inl 30) = true := by kernel_rfl
set_option maxRecDepth 100000 in
theorem letterReads_lifted (os : Os) (started : os.Started) (H : Type) (enc : TypeId × Value → H) :
    ReturnsInHanded {} Try.checked os 5 .any (Rows.letterReadsSpec.pre6 enc Try.prog Try.f5 Rows.letterReadsRow.domain false) (Rows.letterReadsSpec.post enc Try.prog Try.f5 false true false false) := by
  refine returnsInHanded_of_change (C := Try.checked) (by kernel_rfl) started (by kernel_rfl) Try.func5
    (ChangeSpec.witness6 (enc := enc) (C := Try.checked) false ⟨#[], #[.slice none 0 0], []⟩ 8 (by kernel_rfl) (by kernel_rfl) (by kernel_rfl) (by kernel_rfl)) ?_
  intro W base args ds gs before hval0 hW hcnd _
  have hval : ∀ (j : Nat) t v, Try.f5.params[j]? = some t → args[j]? = some v → Value.okWide Try.prog W .any base t v := hval0
  have hW' := hW
  obtain ⟨p, q, hA0, hV, rfl, hfz, hnd⟩ := hW
  have hA : DataW.TrodAll enc Try.prog W 0 (fun _ => true) true Try.f5.params.toList args.toList ds p := hA0
  rw [Try.params5] at hA hval
  clear hA0 hval0
  obtain ⟨args⟩ := args
  obtain ⟨v0, r0, d0, e0, p0, q0, ha0, rfl, rfl, h0, hA0⟩ := trodAll_cons hA
  simp only at ha0; subst ha0
  obtain ⟨rfl, rfl, rfl⟩ := trodAll_nil hA0
  obtain ⟨x0, hx0⟩ := arg_sl 60 letterReads_ok0 Try.underlying30 (hval 0 30 v0 rfl rfl) h0
  refine (calls_of (letterReads_ok W hx0)).mono fun e W' ⟨he, hg⟩ => ?_
  subst he
  exact ⟨_, rfl, law_post hW' hg laidOut_ok (by kernel_rfl) rfl Try.underlying4 rfl rfl rfl rfl⟩
theorem letterReads_joined : joinedFacts Try.prog 5 Try.f5 Rows.letterReadsSpec Rows.letterReadsRow = true := by
  unfold joinedFacts
  rw [laidOut_ok, mapsRowed_ok, stopsHeard_ok, mayEnter_ok, lifts_ok, make_ok]
  kernel_rfl
theorem letterReads_proved : Rows.LetterReadsSaid :=
  OpenClaim.holds_of_wide 5 Try.f5 rfl rfl rfl rfl rfl rfl rfl ⟨rfl, rfl, rfl, rfl, rfl⟩ rfl rfl rfl rfl rfl (by kernel_rfl) Try.func5 letterReads_joined
    (of_decide_eq_true (by kernel_rfl)) (by unfold Func.isWrapper; first | (rw [if_pos (by decide +kernel)]; kernel_rfl) | (rw [if_neg (by decide +kernel)]; exact ⟨rfl, rfl⟩))
    (fun os started H enc _ => letterReads_lifted os started H enc)
#print axioms letterReads_proved
end
end Go.Proofs.Ytcikgnbpcombpaa
