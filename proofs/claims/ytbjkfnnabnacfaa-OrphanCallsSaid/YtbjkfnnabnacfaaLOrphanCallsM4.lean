/- Part 4 of the proof of LOrphanCalls: what it needs of the library, the walks and the plain laws. Conditions: those named in each theorem. -/
import Derived.Test.YtbjkfnnabnacfaaLOrphanCallsM3
namespace Go.Proofs.Ytbjkfnnabnacfaa
section
set_option linter.unusedVariables false
set_option linter.unusedSimpArgs false
set_option maxRecDepth 4000
theorem fnOk108 : fnOk Try.prog 108 = true := by kernel_rfl
theorem fnOk112 : fnOk Try.prog 112 = true := by kernel_rfl
theorem fnOk115 : fnOk Try.prog 115 = true := by kernel_rfl
theorem fnOk88 : fnOk Try.prog 88 = true := by kernel_rfl
theorem fnOk96 : fnOk Try.prog 96 = true := by kernel_rfl
theorem fnOk98 : fnOk Try.prog 98 = true := by kernel_rfl
theorem tz117 : tz Try.prog 117 = some [.slice none 0 0, .int .i64 0, .bool false] := by kernel_rfl
theorem fin0_cEncode_ok_ {P : Prop} (h : P := by first | omega | (simp only [List.length_append, List.length_nil, List.length_cons, List.length_take, List.length_drop] at *; omega) | (have h_ := cCheck_zero (Decidable.not_not.1 ‹¬ ¬ cCheck d0 = 0›); omega) | (have h_ := cCheck_zero (Decidable.not_not.1 ‹¬ ¬ cCheck d0 = 0›); simp only [List.length_append, List.length_nil, List.length_cons] at *; omega)) : P := h
theorem cEncode_ok_ (W : World) {v0 : List Value} {d0 : DCommit} (h0 : Rd TCommit (wm W) v0 d0) : CallR Try.prog 56 [.agg v0.toArray] W (mnil) (fun v m' => ∃ (s0 : Value), v = .tuple #[s0, .int .i64 ((cEncode d0).2)] ∧ Ow (.sl .byte) m' [s0] ((cEncode d0).1)) := by
  obtain ⟨p0_A2, p0_c2, rfl, p0_0, p0_1, p0_2⟩ := open_Commit (x0 := d0.1) (x1 := d0.2.1) (x2 := d0.2.2) h0
  simp only [inK] at p0_0
  simp only [inK] at p0_1
  have p0_r2 := Rd.room p0_2
  refine CallR.ofA (n := 23) Try.func56 rfl rfl rfl ?_
  refine VC.rs ?_
  refine VO.box (cs := [Value.int .i64 (d0.1), Value.int .i64 (d0.2.1), Value.slice p0_A2 (d0.2.2.length) (p0_c2)]) 102 rfl rfl rfl (fun g1 => ?_)
  refine VO.as ?_
  refine VO.as ?_
  refine VO.k4 0 1 2 3 ?_
  refine VC.seq ?_
  refine VC.rs ?_
  refine VO.y rfl (.ldA 102 rfl tk32 rfl (cellsAt_one rfl rfl)) ?_
  refine VO.callN 103 rfl fnOk86 rfl (fun W hW => cCheck_ok_ W (Rd.mono h0 (hW.at (i := 0) rfl))) (fun v3 m3 hv3 => ?_)
  subst hv3
  have hfa4 := cCheck_range d0
  refine VO.as ?_
  refine VO.k5 0 1 2 3 4 ?_
  refine VC.rs ?_
  refine VO.mv ?_
  refine VO.y rfl (.neq rfl rfl) ?_
  refine VO.kp [102, 0] [(102, mone g1 (.cells [Value.int .i64 (d0.1), Value.int .i64 (d0.2.1), Value.slice p0_A2 (d0.2.2.length) (p0_c2)].toArray 32 (0, 0))), (0, wm W)] ?_
  refine VO.k6 0 1 2 3 4 8 ?_
  refine VC.cond rfl (fun hc5 => ?_) (fun hc5 => ?_)
  · -- T
    refine VC.rs ?_
    refine VO.mv ?_
    refine VO.as ?_
    refine VO.as ?_
    refine VO.k6 0 1 2 3 4 8 ?_
    refine VC.ret ?_
    refine outR ?_
    refine ⟨_, _, res_run (rs := [.tmp 2, .tmp 3]) rfl (.tmp rfl (.tmp rfl .nil)), fun W_ hI => out_of (l := []) hI [] rfl rfl (mle_refl _) (fun hS_ => ?_)⟩
    dsimp only [packV]
    have he0 : ((cEncode d0).1 : Ty.Den (.sl .byte)) = [] := by first | rfl | (first | (rw [cEncode_bad (by assumption)]; done) | (rw [cEncode_good (by assumption)]; done))
    refine ⟨Value.slice none (0) (0), ?_, ?_⟩
    rotate_left
    · rw [he0]; exact (Ow.nil _ _)
    all_goals (first | rfl | (first | (rw [cEncode_bad (by assumption)] <;> rfl) | (rw [cEncode_good (by assumption)] <;> rfl)))
  · -- F
    refine VC.skip ?_
    refine outN ?_
    refine VC.seq ?_
    refine VC.regD _ 13 [(0, true), (1, true), (2, true), (4, true), (5, true), (6, true), (8, true), (9, true), (3, false), (7, false), (10, false), (11, true), (12, true)] follows (by kernel_rfl) (fun _ h => h.sub [102, 0]) ?_
    refine VD.y rfl rfl (.inl rfl) (.fa rfl tst32 rfl) ?_
    refine VD.y rfl rfl (.inl rfl) (.ld1 102 rfl tk3 rfl (cellsAt_one rfl rfl)) ?_
    refine VD.y rfl rfl (.inl rfl) (.cvI (c := ((d0.1).toNat : Int)) rfl ⟨_, Try.underlying3⟩ Try.underlying82 (by rw [IntWalk.u64_in _ (by exact fin0_cEncode_ok_)]; first | omega | (exact fin0_cEncode_ok_))) ?_
    refine VD.y rfl rfl (.inl rfl) (.fa rfl tst32 rfl) ?_
    refine VD.y rfl rfl (.inl rfl) (.ld1 102 rfl tk3 rfl (cellsAt_one rfl rfl)) ?_
    refine VD.y rfl rfl (.inl rfl) (.cvI (c := ((d0.2.1).toNat : Int)) rfl ⟨_, Try.underlying3⟩ Try.underlying82 (by rw [IntWalk.u64_in _ (by exact fin0_cEncode_ok_)]; first | omega | (exact fin0_cEncode_ok_))) ?_
    refine VD.y rfl rfl (.inl rfl) (.fa rfl tst32 rfl) ?_
    refine VD.y rfl rfl (.inl rfl) (.ld1 102 rfl tk30 rfl (cellsAt_one rfl rfl)) ?_
    refine VD.callN 106 rfl rfl (.inl rfl) fnOk54 rfl (fun _ h => h.sub [102, 0]) (fun W hW => vAppend_ok W (Rd.nil _ _ none 0 (Nat.zero_le _)) ((d0.1).toNat) (by exact fin0_cEncode_ok_) (by exact fin0_cEncode_ok_)) (fun v6 m6 hv6 => ?_)
    obtain ⟨s6_0, rfl, f6_0⟩ := hv6
    have hfa7 := venc_len (x := ((d0.1).toNat)) (by first | omega | exact or64 (by assumption) _)
    simp only [List.nil_append] at f6_0
    obtain ⟨A6_0, c6_0, eq6_0, l6_0, k6_0⟩ := f6_0.slice
    subst eq6_0
    simp only [maxLen] at k6_0
    refine VD.callN 108 rfl rfl (.inl rfl) fnOk54 rfl (fun _ h => h.sub [102, 0]) (fun W hW => vAppend_ok W (OwnL.rd (Ow.ownl f6_0 rfl mnil) (hW.at (i := 106) rfl) (mle_nil _)) ((d0.2.1).toNat) (by exact fin0_cEncode_ok_) (by exact fin0_cEncode_ok_)) (fun v8 m8 hv8 => ?_)
    obtain ⟨s8_0, rfl, f8_0⟩ := hv8
    have hfa9 := venc_len (x := ((d0.2.1).toNat)) (by first | omega | exact or64 (by assumption) _)
    obtain ⟨A8_0, c8_0, eq8_0, l8_0, k8_0⟩ := f8_0.slice
    subst eq8_0
    simp only [maxLen] at k8_0
    refine VD.callN 110 rfl rfl (.inl rfl) fnOk88 rfl (fun _ h => h.sub [102, 0]) (fun W hW => bAppend_ok W (OwnL.rd (Ow.ownl f8_0 rfl mnil) (hW.at (i := 108) rfl) (mle_nil _)) (Rd.mono p0_2 (hW.at (i := 0) rfl)) (by exact fin0_cEncode_ok_)) (fun v10 m10 hv10 => ?_)
    obtain ⟨s10_0, rfl, f10_0⟩ := hv10
    have hfa11 := bAppend_len ((venc ((d0.1).toNat)) ++ venc ((d0.2.1).toNat)) d0.2.2
    obtain ⟨A10_0, c10_0, eq10_0, l10_0, k10_0⟩ := f10_0.slice
    subst eq10_0
    simp only [maxLen] at k10_0
    refine VD.y rfl rfl (.inl rfl) (.ext rfl rfl) ?_
    refine VD.y rfl rfl (.inl rfl) (.ext rfl rfl) ?_
    refine VD.nil rfl ?_ rfl
    refine VO.as ?_
    refine VO.as ?_
    refine VO.k6 0 1 2 3 4 8 ?_
    refine outN ?_
    refine VC.ret ?_
    refine ⟨_, _, res_run (rs := [.tmp 2, .tmp 3]) rfl (.tmp rfl (.tmp rfl .nil)), fun W_ hI => out_of (l := [m10]) hI [110] rfl rfl (mle_refl _) (fun hS_ => ?_)⟩
    dsimp only [packV]
    have he0 : ((cEncode d0).1 : Ty.Den (.sl .byte)) = (bAppend ((venc ((d0.1).toNat)) ++ venc ((d0.2.1).toNat)) d0.2.2).1 := by first | rfl | (first | (rw [cEncode_bad (by assumption)]; done) | (rw [cEncode_good (by assumption)]; done))
    refine ⟨Value.slice A10_0 (((bAppend ((venc ((d0.1).toNat)) ++ venc ((d0.2.1).toNat)) d0.2.2).1).length) (c10_0), ?_, ?_⟩
    rotate_left
    · rw [he0]; exact (Ow.up (OwnL.ow (Ow.ownl f10_0 rfl mnil) rfl) (hS_.1 _ (.head _)))
    all_goals (first | rfl | (first | (rw [cEncode_bad (by assumption)] <;> rfl) | (rw [cEncode_good (by assumption)] <;> rfl)))
theorem c4Check_ok (W : World) {v0 : List Value} {d0 : DCommit} (h0 : Rd TCommit (wm W) v0 d0) : CallR Try.prog 98 [.agg v0.toArray] W (mnil) (fun v m' => v = .int .i64 (cCheck d0)) := by
  obtain ⟨p0_A2, p0_c2, rfl, p0_0, p0_1, p0_2⟩ := open_Commit (x0 := d0.1) (x1 := d0.2.1) (x2 := d0.2.2) h0
  simp only [inK] at p0_0
  simp only [inK] at p0_1
  have p0_r2 := Rd.room p0_2
  refine CallR.ofA (n := 24) Try.func98 rfl rfl rfl ?_
  refine VC.rs ?_
  refine VO.box (cs := [Value.int .i64 (d0.1), Value.int .i64 (d0.2.1), Value.slice p0_A2 (d0.2.2.length) (p0_c2)]) 102 rfl rfl rfl (fun g1 => ?_)
  refine VO.as ?_
  refine VO.k3 0 1 2 ?_
  refine VC.seq ?_
  refine VC.rs ?_
  refine VO.y rfl (.fa rfl tst32 rfl) ?_
  refine VO.y rfl (.ld1 102 rfl tk3 rfl (cellsAt_one rfl rfl)) ?_
  refine VO.y rfl (.lss rfl rfl) ?_
  refine VO.mv ?_
  refine VO.dec (t := 6) rfl (fun hc3 => ?_) (fun hc3 => ?_)
  · -- T
    refine VO.gN ?_
    refine VO.gN ?_
    refine VO.gN ?_
    refine VO.y rfl (.pT rfl rfl) ?_
    refine VO.mv ?_
    refine VO.gN ?_
    refine VO.gN ?_
    refine VO.gN ?_
    refine VO.y rfl (.pT rfl rfl) ?_
    refine VO.mv ?_
    refine VO.gN ?_
    refine VO.gN ?_
    refine VO.gN ?_
    refine VO.y rfl (.pT rfl rfl) ?_
    refine VO.k4 0 1 2 20 ?_
    refine VC.condT rfl ?_
    refine VC.rs ?_
    refine VO.as ?_
    refine VO.kp [102, 0] [(102, mone g1 (.cells [Value.int .i64 (d0.1), Value.int .i64 (d0.2.1), Value.slice p0_A2 (d0.2.2.length) (p0_c2)].toArray 32 (0, 0))), (0, wm W)] ?_
    refine VO.k4 0 1 2 20 ?_
    refine VC.ret ?_
    refine outR ?_
    refine ⟨_, _, res_run (rs := [.tmp 2]) rfl (.tmp rfl .nil), fun W_ hI => out_of (l := []) hI [] rfl rfl (mle_refl _) (fun hS_ => ?_)⟩
    dsimp only [packV]
    all_goals (first | rfl | (unfold cCheck; congr 1; split <;> (try split) <;> first | rfl | omega))
  · -- F
    refine VO.gy rfl ⟨_, rfl, rfl⟩ (.fa rfl tst32 rfl) ?_
    refine VO.gy rfl ⟨_, rfl, rfl⟩ (.ld1 102 rfl tk3 rfl (cellsAt_one rfl rfl)) ?_
    refine VO.gy rfl ⟨_, rfl, rfl⟩ (.gtr rfl rfl) ?_
    refine VO.y rfl (.pF rfl rfl) ?_
    refine VO.mv ?_
    refine VO.dec (t := 11) rfl (fun hc4 => ?_) (fun hc4 => ?_)
    · -- FT
      refine VO.gN ?_
      refine VO.gN ?_
      refine VO.gN ?_
      refine VO.y rfl (.pT rfl rfl) ?_
      refine VO.mv ?_
      refine VO.gN ?_
      refine VO.gN ?_
      refine VO.gN ?_
      refine VO.y rfl (.pT rfl rfl) ?_
      refine VO.k4 0 1 2 20 ?_
      refine VC.condT rfl ?_
      refine VC.rs ?_
      refine VO.as ?_
      refine VO.kp [102, 0] [(102, mone g1 (.cells [Value.int .i64 (d0.1), Value.int .i64 (d0.2.1), Value.slice p0_A2 (d0.2.2.length) (p0_c2)].toArray 32 (0, 0))), (0, wm W)] ?_
      refine VO.k4 0 1 2 20 ?_
      refine VC.ret ?_
      refine outR ?_
      refine ⟨_, _, res_run (rs := [.tmp 2]) rfl (.tmp rfl .nil), fun W_ hI => out_of (l := []) hI [] rfl rfl (mle_refl _) (fun hS_ => ?_)⟩
      dsimp only [packV]
      all_goals (first | rfl | (unfold cCheck; congr 1; split <;> (try split) <;> first | rfl | omega))
    · -- FF
      refine VO.gy rfl ⟨_, rfl, rfl⟩ (.fa rfl tst32 rfl) ?_
      refine VO.gy rfl ⟨_, rfl, rfl⟩ (.ld1 102 rfl tk3 rfl (cellsAt_one rfl rfl)) ?_
      refine VO.gy rfl ⟨_, rfl, rfl⟩ (.lss rfl rfl) ?_
      refine VO.y rfl (.pF rfl rfl) ?_
      refine VO.mv ?_
      refine VO.dec (t := 16) rfl (fun hc5 => ?_) (fun hc5 => ?_)
      · -- FFT
        refine VO.gN ?_
        refine VO.gN ?_
        refine VO.gN ?_
        refine VO.y rfl (.pT rfl rfl) ?_
        refine VO.k4 0 1 2 20 ?_
        refine VC.condT rfl ?_
        refine VC.rs ?_
        refine VO.as ?_
        refine VO.kp [102, 0] [(102, mone g1 (.cells [Value.int .i64 (d0.1), Value.int .i64 (d0.2.1), Value.slice p0_A2 (d0.2.2.length) (p0_c2)].toArray 32 (0, 0))), (0, wm W)] ?_
        refine VO.k4 0 1 2 20 ?_
        refine VC.ret ?_
        refine outR ?_
        refine ⟨_, _, res_run (rs := [.tmp 2]) rfl (.tmp rfl .nil), fun W_ hI => out_of (l := []) hI [] rfl rfl (mle_refl _) (fun hS_ => ?_)⟩
        dsimp only [packV]
        all_goals (first | rfl | (unfold cCheck; congr 1; split <;> (try split) <;> first | rfl | omega))
      · -- FFF
        refine VO.gy rfl ⟨_, rfl, rfl⟩ (.fa rfl tst32 rfl) ?_
        refine VO.gy rfl ⟨_, rfl, rfl⟩ (.ld1 102 rfl tk3 rfl (cellsAt_one rfl rfl)) ?_
        refine VO.gy rfl ⟨_, rfl, rfl⟩ (.gtr rfl rfl) ?_
        refine VO.y rfl (.pF rfl rfl) ?_
        refine VO.k4 0 1 2 20 ?_
        refine VC.cond rfl (fun hc6 => ?_) (fun hc6 => ?_)
        · -- FFFT
          refine VC.rs ?_
          refine VO.as ?_
          refine VO.kp [102, 0] [(102, mone g1 (.cells [Value.int .i64 (d0.1), Value.int .i64 (d0.2.1), Value.slice p0_A2 (d0.2.2.length) (p0_c2)].toArray 32 (0, 0))), (0, wm W)] ?_
          refine VO.k4 0 1 2 20 ?_
          refine VC.ret ?_
          refine outR ?_
          refine ⟨_, _, res_run (rs := [.tmp 2]) rfl (.tmp rfl .nil), fun W_ hI => out_of (l := []) hI [] rfl rfl (mle_refl _) (fun hS_ => ?_)⟩
          dsimp only [packV]
          all_goals (first | rfl | (unfold cCheck; congr 1; split <;> (try split) <;> first | rfl | omega))
        · -- FFFF
          refine VC.skip ?_
          refine outN ?_
          refine VC.rs ?_
          refine VO.y rfl (.fa rfl tst32 rfl) ?_
          refine VO.y rfl (.ld1 102 rfl tk30 rfl (cellsAt_one rfl rfl)) ?_
          refine VO.callN 107 rfl fnOk116 rfl (fun W hW => rbCheck_ok W (Rd.mono p0_2 (hW.at (i := 0) rfl))) (fun v7 m7 hv7 => ?_)
          subst hv7
          have hfa8 := batchCheck_range d0.2.2
          refine VO.as ?_
          refine VO.kp [102, 0] [(102, mone g1 (.cells [Value.int .i64 (d0.1), Value.int .i64 (d0.2.1), Value.slice p0_A2 (d0.2.2.length) (p0_c2)].toArray 32 (0, 0))), (0, wm W)] ?_
          refine VO.k4 0 1 2 20 ?_
          refine VC.ret ?_
          refine ⟨_, _, res_run (rs := [.tmp 2]) rfl (.tmp rfl .nil), fun W_ hI => out_of (l := []) hI [] rfl rfl (mle_refl _) (fun hS_ => ?_)⟩
          dsimp only [packV]
          all_goals (first | rfl | (unfold cCheck; congr 1; split <;> (try split) <;> first | rfl | omega))
theorem fin0_c4Encode_ok {P : Prop} (h : P := by first | omega | (simp only [List.length_append, List.length_nil, List.length_cons, List.length_take, List.length_drop] at *; omega) | (have h_ := cCheck_zero (Decidable.not_not.1 ‹¬ ¬ cCheck d0 = 0›); omega) | (have h_ := cCheck_zero (Decidable.not_not.1 ‹¬ ¬ cCheck d0 = 0›); simp only [List.length_append, List.length_nil, List.length_cons] at *; omega)) : P := h
theorem c4Encode_ok (W : World) {v0 : List Value} {d0 : DCommit} (h0 : Rd TCommit (wm W) v0 d0) : CallR Try.prog 90 [.agg v0.toArray] W (mnil) (fun v m' => ∃ (s0 : Value), v = .tuple #[s0, .int .i64 ((cEncode d0).2)] ∧ Ow (.sl .byte) m' [s0] ((cEncode d0).1)) := by
  obtain ⟨p0_A2, p0_c2, rfl, p0_0, p0_1, p0_2⟩ := open_Commit (x0 := d0.1) (x1 := d0.2.1) (x2 := d0.2.2) h0
  simp only [inK] at p0_0
  simp only [inK] at p0_1
  have p0_r2 := Rd.room p0_2
  refine CallR.ofA (n := 24) Try.func90 rfl rfl rfl ?_
  refine VC.rs ?_
  refine VO.box (cs := [Value.int .i64 (d0.1), Value.int .i64 (d0.2.1), Value.slice p0_A2 (d0.2.2.length) (p0_c2)]) 102 rfl rfl rfl (fun g1 => ?_)
  refine VO.as ?_
  refine VO.as ?_
  refine VO.k4 0 1 2 3 ?_
  refine VC.rs ?_
  refine VO.y rfl (.ldA 102 rfl tk32 rfl (cellsAt_one rfl rfl)) ?_
  refine VO.callN 103 rfl fnOk98 rfl (fun W hW => c4Check_ok W (Rd.mono h0 (hW.at (i := 0) rfl))) (fun v3 m3 hv3 => ?_)
  subst hv3
  have hfa4 := cCheck_range d0
  refine VO.as ?_
  refine VO.k5 0 1 2 3 4 ?_
  refine VC.seq ?_
  refine VC.rs ?_
  refine VO.mv ?_
  refine VO.y rfl (.neq rfl rfl) ?_
  refine VO.kp [102, 0] [(102, mone g1 (.cells [Value.int .i64 (d0.1), Value.int .i64 (d0.2.1), Value.slice p0_A2 (d0.2.2.length) (p0_c2)].toArray 32 (0, 0))), (0, wm W)] ?_
  refine VO.k6 0 1 2 3 4 9 ?_
  refine VC.cond rfl (fun hc5 => ?_) (fun hc5 => ?_)
  · -- T
    refine VC.rs ?_
    refine VO.mv ?_
    refine VO.as ?_
    refine VO.as ?_
    refine VO.k6 0 1 2 3 4 9 ?_
    refine VC.ret ?_
    refine outR ?_
    refine ⟨_, _, res_run (rs := [.tmp 2, .tmp 3]) rfl (.tmp rfl (.tmp rfl .nil)), fun W_ hI => out_of (l := []) hI [] rfl rfl (mle_refl _) (fun hS_ => ?_)⟩
    dsimp only [packV]
    have he0 : ((cEncode d0).1 : Ty.Den (.sl .byte)) = [] := by first | rfl | (first | (rw [cEncode_bad (by assumption)]; done) | (rw [cEncode_good (by assumption)]; done))
    refine ⟨Value.slice none (0) (0), ?_, ?_⟩
    rotate_left
    · rw [he0]; exact (Ow.nil _ _)
    all_goals (first | rfl | (first | (rw [cEncode_bad (by assumption)] <;> rfl) | (rw [cEncode_good (by assumption)] <;> rfl)))
  · -- F
    refine VC.skip ?_
    refine outN ?_
    refine VC.rs ?_
    refine VO.y rfl (.fa rfl tst32 rfl) ?_
    refine VO.y rfl (.ld1 102 rfl tk3 rfl (cellsAt_one rfl rfl)) ?_
    refine VO.callN 106 rfl fnOk57 rfl (fun W hW => rPut_ok W (Rd.nil _ _ none 0 (Nat.zero_le _)) d0.1 (by simp only [inK]; (exact fin0_c4Encode_ok)) (by exact fin0_c4Encode_ok) (by exact fin0_c4Encode_ok)) (fun v6 m6 hv6 => ?_)
    obtain ⟨s6_0, rfl, f6_0⟩ := hv6
    have hfa7 := venc_len (x := d0.1.toNat) (by omega)
    simp only [List.nil_append] at f6_0
    obtain ⟨A6_0, c6_0, eq6_0, l6_0, k6_0⟩ := f6_0.slice
    subst eq6_0
    simp only [maxLen] at k6_0
    refine VO.as ?_
    refine VO.k7 0 1 2 3 4 5 9 ?_
    refine VC.rs ?_
    refine VO.mv ?_
    refine VO.y rfl (.fa rfl tst32 rfl) ?_
    refine VO.y rfl (.ld1 102 rfl tk3 rfl (cellsAt_one rfl rfl)) ?_
    refine VO.callN 108 rfl fnOk57 rfl (fun W hW => rPut_ok W (OwnL.rd (Ow.ownl f6_0 rfl mnil) (hW.at (i := 106) rfl) (mle_nil _)) d0.2.1 (by simp only [inK]; (exact fin0_c4Encode_ok)) (by exact fin0_c4Encode_ok) (by exact fin0_c4Encode_ok)) (fun v8 m8 hv8 => ?_)
    obtain ⟨s8_0, rfl, f8_0⟩ := hv8
    have hfa9 := venc_len (x := d0.2.1.toNat) (by omega)
    obtain ⟨A8_0, c8_0, eq8_0, l8_0, k8_0⟩ := f8_0.slice
    subst eq8_0
    simp only [maxLen] at k8_0
    refine VO.as ?_
    refine VO.k7 0 1 2 3 4 5 9 ?_
    refine VC.rs ?_
    refine VO.mv ?_
    refine VO.y rfl (.fa rfl tst32 rfl) ?_
    refine VO.y rfl (.ld1 102 rfl tk30 rfl (cellsAt_one rfl rfl)) ?_
    refine VO.callN 110 rfl fnOk108 rfl (fun W hW => rbAppend_ok W (OwnL.rd (Ow.ownl f8_0 rfl mnil) (hW.at (i := 108) rfl) (mle_nil _)) (Rd.mono p0_2 (hW.at (i := 0) rfl)) (by exact fin0_c4Encode_ok)) (fun v10 m10 hv10 => ?_)
    obtain ⟨s10_0, rfl, f10_0⟩ := hv10
    have hfa11 := bAppend_len ((venc d0.1.toNat) ++ venc d0.2.1.toNat) d0.2.2
    obtain ⟨A10_0, c10_0, eq10_0, l10_0, k10_0⟩ := f10_0.slice
    subst eq10_0
    simp only [maxLen] at k10_0
    refine VO.y rfl (.ext rfl rfl) ?_
    refine VO.y rfl (.ext rfl rfl) ?_
    refine VO.as ?_
    refine VO.as ?_
    refine VO.kp [110, 108, 102, 0] [(110, m10), (108, m8), (102, mone g1 (.cells [Value.int .i64 (d0.1), Value.int .i64 (d0.2.1), Value.slice p0_A2 (d0.2.2.length) (p0_c2)].toArray 32 (0, 0))), (0, wm W)] ?_
    refine VO.k7 0 1 2 3 4 5 9 ?_
    refine VC.ret ?_
    refine ⟨_, _, res_run (rs := [.tmp 2, .tmp 3]) rfl (.tmp rfl (.tmp rfl .nil)), fun W_ hI => out_of (l := [m10]) hI [110] rfl rfl (mle_refl _) (fun hS_ => ?_)⟩
    dsimp only [packV]
    have he0 : ((cEncode d0).1 : Ty.Den (.sl .byte)) = (bAppend ((venc d0.1.toNat) ++ venc d0.2.1.toNat) d0.2.2).1 := by first | rfl | (first | (rw [cEncode_bad (by assumption)]; done) | (rw [cEncode_good (by assumption)]; done))
    refine ⟨Value.slice A10_0 (((bAppend ((venc d0.1.toNat) ++ venc d0.2.1.toNat) d0.2.2).1).length) (c10_0), ?_, ?_⟩
    rotate_left
    · rw [he0]; exact (Ow.up (OwnL.ow (Ow.ownl f10_0 rfl mnil) rfl) (hS_.1 _ (.head _)))
    all_goals (first | rfl | (first | (rw [cEncode_bad (by assumption)] <;> rfl) | (rw [cEncode_good (by assumption)] <;> rfl)))
theorem fin0_cDecode_ok_ {P : Prop} (h : P := by first | (rw [cDecode_e1 (by assumption)] <;> rfl) | (rw [cDecode_e2 (by assumption)] <;> rfl) | (rw [cDecode_e3 (by assumption)] <;> rfl) | (rw [cDecode_e4 (by assumption)] <;> rfl) | (rw [cDecode_e5 (by assumption)] <;> rfl) | (rw [cDecode_ok (by assumption) (by assumption) (by assumption) (by assumption) (by assumption)] <;> rfl)) : P := h
theorem cDecode_ok_ (W : World) {v0 : Value} {d0 : List UInt8} (h0 : Rd (.sl .byte) (wm W) [v0] d0) : CallR Try.prog 93 [v0] W (mnil) (fun v m' => ∃ (s0 : List Value), v = .tuple #[.agg s0.toArray, .int .i64 ((cDecode d0).2)] ∧ Ow TCommit m' s0 ((cDecode d0).1)) := by
  obtain ⟨A0, c0, rfl, l0, k0⟩ := h0.slice
  simp only [maxLen] at k0
  refine CallR.ofA (n := 65) Try.func93 rfl rfl rfl ?_
  refine VC.rs ?_
  refine VO.alloc 102 rfl tz32 (fun g1 => ?_)
  refine VO.as ?_
  refine VO.k3 0 2 3 ?_
  refine VC.rs ?_
  refine VO.mv ?_
  refine VO.callN 103 rfl fnOk111 rfl (fun W hW => vSmall_ok W (Rd.mono h0 (hW.at (i := 0) rfl)) 1048576 bdk) (fun v3 m3 hv3 => ?_)
  subst hv3
  have hfa4 := s_bounds d0 1048576 (by omega)
  refine VO.mv ?_
  refine VO.y rfl (.ext rfl rfl) ?_
  refine VO.y rfl (.ext rfl rfl) ?_
  refine VO.y rfl (.ext rfl rfl) ?_
  refine VO.as ?_
  refine VO.as ?_
  refine VO.as ?_
  refine VO.k6 0 2 3 4 5 6 ?_
  refine VC.seq ?_
  refine VC.rs ?_
  refine VO.mv ?_
  refine VO.y rfl (.neq rfl rfl) ?_
  refine VO.kp [102, 0] [(102, mone g1 (.cells [Value.int .i64 (0), Value.int .i64 (0), Value.slice none (0) (0)].toArray 32 (0, 0))), (0, wm W)] ?_
  refine VO.k7 0 2 3 4 5 6 19 ?_
  refine VC.cond rfl (fun hc5 => ?_) (fun hc5 => ?_)
  · -- T
    refine VC.rs ?_
    refine VO.y rfl (.bst (cs := [Value.int .i64 (0), Value.int .i64 (0), Value.slice none (0) (0)]) rfl tst32 tz32 rfl) ?_
    refine VO.store (k := 3) (c' := [Value.int .i64 (0), Value.int .i64 (0), Value.slice none (0) (0)]) 102 rfl rfl (.inl tk32) rfl rfl rfl rfl rfl ?_
    refine VO.as ?_
    refine VO.k7 0 2 3 4 5 6 19 ?_
    refine VC.ret ?_
    refine outR ?_
    refine ⟨_, _, res_run (rs := [.cell 2 32, .tmp 3]) rfl (.agg 102 rfl tk32 rfl ⟨_, _, _, mone_self _ _, Nat.le_of_ble_eq_true rfl, rfl⟩ (.tmp rfl .nil)), fun W_ hI => out_of (l := []) hI [] rfl rfl (mle_refl _) (fun hS_ => ?_)⟩
    dsimp only [packV]
    have he0 : ((cDecode d0).1 : Ty.Den TCommit) = (0, 0, []) := by first | rfl | (exact fin0_cDecode_ok_)
    refine ⟨[Value.int .i64 (0), Value.int .i64 (0), Value.slice none (0) (0)], ?_, ?_⟩
    rotate_left
    · rw [he0]; exact (mkO_Commit 0 0 [] (Seps.nilAt 0 hS_) bdk bdk (Ow.nil _ _))
    all_goals (first | rfl | (exact fin0_cDecode_ok_))
  · -- F
    refine VC.skip ?_
    refine outN ?_
    refine VC.rs ?_
    refine VO.mv ?_
    refine VO.mv ?_
    obtain ⟨A6, hA6, hs6⟩ := h0.drop 1 (sN d0 1048576) rfl bd
    refine VO.y rfl (.slLI (sN d0 1048576) A6 rfl rfl tsl25 rfl hA6 bd) ?_
    refine VO.callN 107 rfl fnOk111 rfl (fun W hW => vSmall_ok W (Rd.mono hs6 (hW.at (i := 0) rfl)) 1048576 bdk) (fun v7 m7 hv7 => ?_)
    subst hv7
    have hfa8 := s_bounds (d0.drop (sN d0 1048576)) 1048576 (by omega)
    refine VO.mv ?_
    refine VO.y rfl (.ext rfl rfl) ?_
    refine VO.y rfl (.ext rfl rfl) ?_
    refine VO.y rfl (.ext rfl rfl) ?_
    refine VO.as ?_
    refine VO.as ?_
    refine VO.as ?_
    refine VO.k9 0 2 3 4 5 6 7 8 19 ?_
    refine VC.seq ?_
    refine VC.rs ?_
    refine VO.mv ?_
    refine VO.y rfl (.neq rfl rfl) ?_
    refine VO.k10 0 2 3 4 5 6 7 8 19 30 ?_
    refine VC.cond rfl (fun hc9 => ?_) (fun hc9 => ?_)
    · -- FT
      refine VC.rs ?_
      refine VO.y rfl (.bst (cs := [Value.int .i64 (0), Value.int .i64 (0), Value.slice none (0) (0)]) rfl tst32 tz32 rfl) ?_
      refine VO.store (k := 3) (c' := [Value.int .i64 (0), Value.int .i64 (0), Value.slice none (0) (0)]) 102 rfl rfl (.inl tk32) rfl rfl rfl rfl rfl ?_
      refine VO.as ?_
      refine VO.kp [102, 0] [(102, mone g1 (.cells [Value.int .i64 (0), Value.int .i64 (0), Value.slice none (0) (0)].toArray 32 (0, 0))), (0, wm W)] ?_
      refine VO.k10 0 2 3 4 5 6 7 8 19 30 ?_
      refine VC.ret ?_
      refine outR ?_
      refine ⟨_, _, res_run (rs := [.cell 2 32, .tmp 3]) rfl (.agg 102 rfl tk32 rfl ⟨_, _, _, mone_self _ _, Nat.le_of_ble_eq_true rfl, rfl⟩ (.tmp rfl .nil)), fun W_ hI => out_of (l := []) hI [] rfl rfl (mle_refl _) (fun hS_ => ?_)⟩
      dsimp only [packV]
      have he0 : ((cDecode d0).1 : Ty.Den TCommit) = (0, 0, []) := by first | rfl | (exact fin0_cDecode_ok_)
      refine ⟨[Value.int .i64 (0), Value.int .i64 (0), Value.slice none (0) (0)], ?_, ?_⟩
      rotate_left
      · rw [he0]; exact (mkO_Commit 0 0 [] (Seps.nilAt 0 hS_) bdk bdk (Ow.nil _ _))
      all_goals (first | rfl | (exact fin0_cDecode_ok_))
    · -- FF
      refine VC.skip ?_
      refine outN ?_
      refine VC.rs ?_
      refine VO.mv ?_
      refine VO.mv ?_
      refine VO.mv ?_
      refine VO.y rfl (.add (c := ((sN d0 1048576 + (sN (d0.drop (sN d0 1048576)) 1048576) : Nat) : Int)) rfl rfl (by omega) ⟨bd, bd⟩) ?_
      obtain ⟨A10, hA10, hs10⟩ := h0.drop 1 (sN d0 1048576 + (sN (d0.drop (sN d0 1048576)) 1048576)) rfl bd
      refine VO.y rfl (.slLI (sN d0 1048576 + (sN (d0.drop (sN d0 1048576)) 1048576)) A10 rfl rfl tsl25 rfl hA10 bd) ?_
      refine VO.callN 111 rfl fnOk112 rfl (fun W hW => bRead_ok W (Rd.mono hs10 (hW.at (i := 0) rfl))) (fun v11 m11 hv11 => ?_)
      obtain ⟨s11_0, rfl, f11_0⟩ := hv11
      have hfa12 := bRead_fits (d0.drop (sN d0 1048576 + (sN (d0.drop (sN d0 1048576)) 1048576)))
      obtain ⟨A11_0, c11_0, eq11_0, l11_0, k11_0⟩ := f11_0.slice
      subst eq11_0
      simp only [maxLen] at k11_0
      refine VO.mv ?_
      refine VO.y rfl (.ext rfl rfl) ?_
      refine VO.y rfl (.ext rfl rfl) ?_
      refine VO.y rfl (.ext rfl rfl) ?_
      refine VO.as ?_
      refine VO.as ?_
      refine VO.as ?_
      refine VO.kp [111, 102, 0] [(111, m11), (102, mone g1 (.cells [Value.int .i64 (0), Value.int .i64 (0), Value.slice none (0) (0)].toArray 32 (0, 0))), (0, wm W)] ?_
      refine VO.k12 0 2 3 4 5 6 7 8 9 10 19 30 ?_
      refine VC.rs ?_
      refine VO.mv ?_
      refine VO.mv ?_
      refine VO.mv ?_
      refine VO.y rfl (.bst (cs := [Value.int .i64 (((sX d0 1048576 : Nat) : Int)), Value.int .i64 (((sX (d0.drop (sN d0 1048576)) 1048576 : Nat) : Int)), Value.slice A11_0 (((bRead (d0.drop (sN d0 1048576 + (sN (d0.drop (sN d0 1048576)) 1048576)))).1).length) (c11_0)]) rfl tst32 tz32 rfl) ?_
      refine VO.alloc 114 rfl tz32 (fun g13 => ?_)
      refine VO.store (k := 3) (c' := [Value.int .i64 (((sX d0 1048576 : Nat) : Int)), Value.int .i64 (((sX (d0.drop (sN d0 1048576)) 1048576 : Nat) : Int)), Value.slice A11_0 (((bRead (d0.drop (sN d0 1048576 + (sN (d0.drop (sN d0 1048576)) 1048576)))).1).length) (c11_0)]) 114 rfl rfl (.inl tk32) rfl rfl rfl rfl rfl ?_
      refine VO.k13 0 2 3 4 5 6 7 8 9 10 11 19 30 ?_
      refine VC.seq ?_
      refine VC.rs ?_
      refine VO.mv ?_
      refine VO.y rfl (.neq rfl rfl) ?_
      refine VO.mv ?_
      refine VO.dec (t := 48) rfl (fun hc15 => ?_) (fun hc15 => ?_)
      · -- FFT
        refine VO.gN ?_
        refine VO.gN ?_
        refine VO.gN ?_
        refine VO.gN ?_
        refine VO.gN ?_
        refine VO.gN ?_
        refine VO.gN ?_
        refine VO.gN ?_
        refine VO.y rfl (.pT rfl rfl) ?_
        refine VO.mv ?_
        refine VO.gN ?_
        refine VO.gN ?_
        refine VO.gN ?_
        refine VO.y rfl (.pT rfl rfl) ?_
        refine VO.k14 0 2 3 4 5 6 7 8 9 10 11 19 30 62 ?_
        refine VC.condT rfl ?_
        refine VC.rs ?_
        refine VO.y rfl (.bst (cs := [Value.int .i64 (0), Value.int .i64 (0), Value.slice none (0) (0)]) rfl tst32 tz32 rfl) ?_
        refine VO.store (k := 3) (c' := [Value.int .i64 (0), Value.int .i64 (0), Value.slice none (0) (0)]) 102 rfl rfl (.inl tk32) rfl rfl rfl rfl rfl ?_
        refine VO.as ?_
        refine VO.kp [114, 111, 102, 0] [(114, mone g13 (.cells [Value.int .i64 (((sX d0 1048576 : Nat) : Int)), Value.int .i64 (((sX (d0.drop (sN d0 1048576)) 1048576 : Nat) : Int)), Value.slice A11_0 (((bRead (d0.drop (sN d0 1048576 + (sN (d0.drop (sN d0 1048576)) 1048576)))).1).length) (c11_0)].toArray 32 (0, 0))), (111, m11), (102, mone g1 (.cells [Value.int .i64 (0), Value.int .i64 (0), Value.slice none (0) (0)].toArray 32 (0, 0))), (0, wm W)] ?_
        refine VO.k14 0 2 3 4 5 6 7 8 9 10 11 19 30 62 ?_
        refine VC.ret ?_
        refine outR ?_
        refine ⟨_, _, res_run (rs := [.cell 2 32, .tmp 3]) rfl (.agg 102 rfl tk32 rfl ⟨_, _, _, mone_self _ _, Nat.le_of_ble_eq_true rfl, rfl⟩ (.tmp rfl .nil)), fun W_ hI => out_of (l := []) hI [] rfl rfl (mle_refl _) (fun hS_ => ?_)⟩
        dsimp only [packV]
        have he0 : ((cDecode d0).1 : Ty.Den TCommit) = (0, 0, []) := by first | rfl | (exact fin0_cDecode_ok_)
        refine ⟨[Value.int .i64 (0), Value.int .i64 (0), Value.slice none (0) (0)], ?_, ?_⟩
        rotate_left
        · rw [he0]; exact (mkO_Commit 0 0 [] (Seps.nilAt 0 hS_) bdk bdk (Ow.nil _ _))
        all_goals (first | rfl | (exact fin0_cDecode_ok_))
      · -- FFF
        refine VO.gy rfl ⟨_, rfl, rfl⟩ (.mv rfl) ?_
        refine VO.gy rfl ⟨_, rfl, rfl⟩ (.mv rfl) ?_
        refine VO.gy rfl ⟨_, rfl, rfl⟩ (.add (c := ((sN d0 1048576 + (sN (d0.drop (sN d0 1048576)) 1048576) : Nat) : Int)) rfl rfl (by omega) ⟨bd, bd⟩) ?_
        refine VO.gy rfl ⟨_, rfl, rfl⟩ (.mv rfl) ?_
        refine VO.gy rfl ⟨_, rfl, rfl⟩ (.add rfl rfl rfl ⟨bd, bd⟩) ?_
        refine VO.gy rfl ⟨_, rfl, rfl⟩ (.mv rfl) ?_
        refine VO.gy rfl ⟨_, rfl, rfl⟩ (.lenS rfl tsl25) ?_
        refine VO.gy rfl ⟨_, rfl, rfl⟩ (.neq rfl rfl) ?_
        refine VO.y rfl (.pF rfl rfl) ?_
        refine VO.mv ?_
        refine VO.dec (t := 58) rfl (fun hc16 => ?_) (fun hc16 => ?_)
        · -- FFFT
          refine VO.gN ?_
          refine VO.gN ?_
          refine VO.gN ?_
          refine VO.y rfl (.pT rfl rfl) ?_
          refine VO.k14 0 2 3 4 5 6 7 8 9 10 11 19 30 62 ?_
          refine VC.condT rfl ?_
          refine VC.rs ?_
          refine VO.y rfl (.bst (cs := [Value.int .i64 (0), Value.int .i64 (0), Value.slice none (0) (0)]) rfl tst32 tz32 rfl) ?_
          refine VO.store (k := 3) (c' := [Value.int .i64 (0), Value.int .i64 (0), Value.slice none (0) (0)]) 102 rfl rfl (.inl tk32) rfl rfl rfl rfl rfl ?_
          refine VO.as ?_
          refine VO.kp [114, 111, 102, 0] [(114, mone g13 (.cells [Value.int .i64 (((sX d0 1048576 : Nat) : Int)), Value.int .i64 (((sX (d0.drop (sN d0 1048576)) 1048576 : Nat) : Int)), Value.slice A11_0 (((bRead (d0.drop (sN d0 1048576 + (sN (d0.drop (sN d0 1048576)) 1048576)))).1).length) (c11_0)].toArray 32 (0, 0))), (111, m11), (102, mone g1 (.cells [Value.int .i64 (0), Value.int .i64 (0), Value.slice none (0) (0)].toArray 32 (0, 0))), (0, wm W)] ?_
          refine VO.k14 0 2 3 4 5 6 7 8 9 10 11 19 30 62 ?_
          refine VC.ret ?_
          refine outR ?_
          refine ⟨_, _, res_run (rs := [.cell 2 32, .tmp 3]) rfl (.agg 102 rfl tk32 rfl ⟨_, _, _, mone_self _ _, Nat.le_of_ble_eq_true rfl, rfl⟩ (.tmp rfl .nil)), fun W_ hI => out_of (l := []) hI [] rfl rfl (mle_refl _) (fun hS_ => ?_)⟩
          dsimp only [packV]
          have he0 : ((cDecode d0).1 : Ty.Den TCommit) = (0, 0, []) := by first | rfl | (exact fin0_cDecode_ok_)
          refine ⟨[Value.int .i64 (0), Value.int .i64 (0), Value.slice none (0) (0)], ?_, ?_⟩
          rotate_left
          · rw [he0]; exact (mkO_Commit 0 0 [] (Seps.nilAt 0 hS_) bdk bdk (Ow.nil _ _))
          all_goals (first | rfl | (exact fin0_cDecode_ok_))
        · -- FFFF
          refine VO.gy rfl ⟨_, rfl, rfl⟩ (.ldA 114 rfl tk32 rfl (cellsAt_one rfl rfl)) ?_
          refine VO.gcallN 117 rfl ⟨_, rfl, rfl⟩ fnOk86 rfl (fun W hW => cCheck_ok_ W (mk_Commit (m := wm W) ((sX d0 1048576 : Nat) : Int) ((sX (d0.drop (sN d0 1048576)) 1048576 : Nat) : Int) ((bRead (d0.drop (sN d0 1048576 + (sN (d0.drop (sN d0 1048576)) 1048576)))).1) bdk bdk (OwnL.rd (Ow.ownl f11_0 rfl mnil) (hW.at (i := 111) rfl) (mle_nil _)))) (fun v17 m17 hv17 => ?_)
          try dsimp only at hv17
          subst hv17
          have hfa18 := cCheck_range (((sX d0 1048576 : Nat) : Int), ((sX (d0.drop (sN d0 1048576)) 1048576 : Nat) : Int), (bRead (d0.drop (sN d0 1048576 + (sN (d0.drop (sN d0 1048576)) 1048576)))).1)
          refine VO.gy rfl ⟨_, rfl, rfl⟩ (.neq rfl rfl) ?_
          refine VO.y rfl (.pF rfl rfl) ?_
          refine VO.k14 0 2 3 4 5 6 7 8 9 10 11 19 30 62 ?_
          refine VC.cond rfl (fun hc19 => ?_) (fun hc19 => ?_)
          · -- FFFFT
            refine VC.rs ?_
            refine VO.y rfl (.bst (cs := [Value.int .i64 (0), Value.int .i64 (0), Value.slice none (0) (0)]) rfl tst32 tz32 rfl) ?_
            refine VO.store (k := 3) (c' := [Value.int .i64 (0), Value.int .i64 (0), Value.slice none (0) (0)]) 102 rfl rfl (.inl tk32) rfl rfl rfl rfl rfl ?_
            refine VO.as ?_
            refine VO.kp [114, 111, 102, 0] [(114, mone g13 (.cells [Value.int .i64 (((sX d0 1048576 : Nat) : Int)), Value.int .i64 (((sX (d0.drop (sN d0 1048576)) 1048576 : Nat) : Int)), Value.slice A11_0 (((bRead (d0.drop (sN d0 1048576 + (sN (d0.drop (sN d0 1048576)) 1048576)))).1).length) (c11_0)].toArray 32 (0, 0))), (111, m11), (102, mone g1 (.cells [Value.int .i64 (0), Value.int .i64 (0), Value.slice none (0) (0)].toArray 32 (0, 0))), (0, wm W)] ?_
            refine VO.k14 0 2 3 4 5 6 7 8 9 10 11 19 30 62 ?_
            refine VC.ret ?_
            refine outR ?_
            refine ⟨_, _, res_run (rs := [.cell 2 32, .tmp 3]) rfl (.agg 102 rfl tk32 rfl ⟨_, _, _, mone_self _ _, Nat.le_of_ble_eq_true rfl, rfl⟩ (.tmp rfl .nil)), fun W_ hI => out_of (l := []) hI [] rfl rfl (mle_refl _) (fun hS_ => ?_)⟩
            dsimp only [packV]
            have he0 : ((cDecode d0).1 : Ty.Den TCommit) = (0, 0, []) := by first | rfl | (exact fin0_cDecode_ok_)
            refine ⟨[Value.int .i64 (0), Value.int .i64 (0), Value.slice none (0) (0)], ?_, ?_⟩
            rotate_left
            · rw [he0]; exact (mkO_Commit 0 0 [] (Seps.nilAt 0 hS_) bdk bdk (Ow.nil _ _))
            all_goals (first | rfl | (exact fin0_cDecode_ok_))
          · -- FFFFF
            refine VC.skip ?_
            refine outN ?_
            refine VC.rs ?_
            refine VO.y rfl (.ldA 114 rfl tk32 rfl (cellsAt_one rfl rfl)) ?_
            refine VO.store (k := 3) (c' := [Value.int .i64 (((sX d0 1048576 : Nat) : Int)), Value.int .i64 (((sX (d0.drop (sN d0 1048576)) 1048576 : Nat) : Int)), Value.slice A11_0 (((bRead (d0.drop (sN d0 1048576 + (sN (d0.drop (sN d0 1048576)) 1048576)))).1).length) (c11_0)]) 102 rfl rfl (.inl tk32) rfl rfl rfl rfl rfl ?_
            refine VO.as ?_
            refine VO.kp [114, 111, 102, 0] [(114, mone g13 (.cells [Value.int .i64 (((sX d0 1048576 : Nat) : Int)), Value.int .i64 (((sX (d0.drop (sN d0 1048576)) 1048576 : Nat) : Int)), Value.slice A11_0 (((bRead (d0.drop (sN d0 1048576 + (sN (d0.drop (sN d0 1048576)) 1048576)))).1).length) (c11_0)].toArray 32 (0, 0))), (111, m11), (102, mone g1 (.cells [Value.int .i64 (((sX d0 1048576 : Nat) : Int)), Value.int .i64 (((sX (d0.drop (sN d0 1048576)) 1048576 : Nat) : Int)), Value.slice A11_0 (((bRead (d0.drop (sN d0 1048576 + (sN (d0.drop (sN d0 1048576)) 1048576)))).1).length) (c11_0)].toArray 32 (0, 0))), (0, wm W)] ?_
            refine VO.k14 0 2 3 4 5 6 7 8 9 10 11 19 30 62 ?_
            refine VC.ret ?_
            refine ⟨_, _, res_run (rs := [.cell 2 32, .tmp 3]) rfl (.agg 102 rfl tk32 rfl ⟨_, _, _, mone_self _ _, Nat.le_of_ble_eq_true rfl, rfl⟩ (.tmp rfl .nil)), fun W_ hI => out_of (l := [m11]) hI [111] rfl rfl (mle_refl _) (fun hS_ => ?_)⟩
            dsimp only [packV]
            have he0 : ((cDecode d0).1 : Ty.Den TCommit) = (((sX d0 1048576 : Nat) : Int), ((sX (d0.drop (sN d0 1048576)) 1048576 : Nat) : Int), (bRead (d0.drop (sN d0 1048576 + (sN (d0.drop (sN d0 1048576)) 1048576)))).1) := by first | rfl | (exact fin0_cDecode_ok_)
            refine ⟨[Value.int .i64 (((sX d0 1048576 : Nat) : Int)), Value.int .i64 (((sX (d0.drop (sN d0 1048576)) 1048576 : Nat) : Int)), Value.slice A11_0 (((bRead (d0.drop (sN d0 1048576 + (sN (d0.drop (sN d0 1048576)) 1048576)))).1).length) (c11_0)], ?_, ?_⟩
            rotate_left
            · rw [he0]; exact (mkO_Commit ((sX d0 1048576 : Nat) : Int) ((sX (d0.drop (sN d0 1048576)) 1048576 : Nat) : Int) ((bRead (d0.drop (sN d0 1048576 + (sN (d0.drop (sN d0 1048576)) 1048576)))).1) hS_ bdk bdk (OwnL.ow (Ow.ownl f11_0 rfl mnil) rfl))
            all_goals (first | rfl | (exact fin0_cDecode_ok_))
theorem rDone_ok (W : World) {g0 : Nat} {E0 : TypeId} {d0 : Dref01Reader} {b0_0 : Value} (hm : mle (mone g0 (.cells [(b0_0 : Value), .int .i64 d0.2.1, .bool d0.2.2].toArray E0 (0, 0))) (wm W)) (h0_0 : Rd (.sl .byte) (mout (wm W) (mone g0 (.cells [(b0_0 : Value), .int .i64 d0.2.1, .bool d0.2.2].toArray E0 (0, 0)))) [b0_0] d0.1) (h0_1 : inK .i64 d0.2.1) : CallR Try.prog 96 [.pointer (some ⟨g0, 0, none⟩)] W (mone g0 (.cells [(b0_0 : Value), .int .i64 d0.2.1, .bool d0.2.2].toArray E0 (0, 0))) (fun v m' => v = .bool (decide (d0.2.2 = false ∧ d0.2.1 = d0.1.length)) ∧ m' = mone g0 (.cells [(b0_0 : Value), .int .i64 d0.2.1, .bool d0.2.2].toArray E0 (0, 0)) ∧ inK .i64 d0.2.1) := by
  obtain ⟨A0_0, c0_0, rfl, l0_0, k0_0⟩ := h0_0.slice
  simp only [maxLen] at k0_0
  have h0_1' := h0_1; simp only [inK] at h0_1'
  refine CallR.ofB (n := 20) hm Try.func96 rfl rfl rfl ?_
  refine VC.rs ?_
  refine VO.as ?_
  refine VO.k2 0 2 ?_
  refine VC.seq ?_
  refine VC.regD _ 15 [(0, true), (1, true), (2, true), (3, true), (4, true), (5, true), (6, true), (7, true), (8, true), (9, true), (10, true), (11, true), (12, true), (13, true), (14, true)] follows (by kernel_rfl) (fun _ h => h.sub [0, 1]) ?_
  refine VD.y rfl rfl (.inl rfl) (.mv rfl) ?_
  refine VD.y rfl rfl (.inl rfl) (.nilp rfl) ?_
  refine VD.y rfl rfl (.inl rfl) (.fa rfl tst117 rfl) ?_
  refine VD.y rfl rfl (.inl rfl) (.ld1 1 rfl tk4 rfl (cellsAt_one rfl rfl)) ?_
  refine VD.y rfl rfl (.inl rfl) (.not rfl) ?_
  refine VD.y rfl rfl (.inl rfl) (.mv rfl) ?_
  refine VD.decBN (s := 8) rfl (fun hc1 => ?_) (fun hc1 => ?_)
  · -- T
    refine VD.y rfl rfl (.inr ⟨_, _, rfl, _, rfl, rfl⟩) (.mv rfl) ?_
    refine VD.y rfl rfl (.inr ⟨_, _, rfl, _, rfl, rfl⟩) (.nilp rfl) ?_
    refine VD.y rfl rfl (.inr ⟨_, _, rfl, _, rfl, rfl⟩) (.fa rfl tst117 rfl) ?_
    refine VD.y rfl rfl (.inr ⟨_, _, rfl, _, rfl, rfl⟩) (.ld1 1 rfl tk3 rfl (cellsAt_one rfl rfl)) ?_
    refine VD.y rfl rfl (.inr ⟨_, _, rfl, _, rfl, rfl⟩) (.mv rfl) ?_
    refine VD.y rfl rfl (.inr ⟨_, _, rfl, _, rfl, rfl⟩) (.nilp rfl) ?_
    refine VD.y rfl rfl (.inr ⟨_, _, rfl, _, rfl, rfl⟩) (.fa rfl tst117 rfl) ?_
    refine VD.y rfl rfl (.inr ⟨_, _, rfl, _, rfl, rfl⟩) (.ld1 1 rfl tk25 rfl (cellsAt_one rfl rfl)) ?_
    refine VD.y rfl rfl (.inr ⟨_, _, rfl, _, rfl, rfl⟩) (.lenS rfl tsl25) ?_
    refine VD.nil rfl ?_ rfl
    refine VO.gy rfl ⟨_, rfl, rfl⟩ (.eql rfl rfl) ?_
    refine VO.y rfl (.pT rfl rfl) ?_
    refine VO.as ?_
    refine VO.k2 0 2 ?_
    refine outN ?_
    refine VC.ret ?_
    refine ⟨_, _, res_run (rs := [.tmp 2]) rfl (.tmp rfl .nil), fun W_ hI => out_of (l := [mone g0 (.cells [Value.slice A0_0 (d0.1.length) (c0_0), Value.int .i64 (d0.2.1), Value.bool d0.2.2].toArray E0 (0, 0))]) hI [1] rfl rfl (mle_refl _) (fun hS_ => ?_)⟩
    dsimp only [packV]
    refine ⟨?_, ?_, ?_⟩
    rotate_left
    · rw [muns_one]
    · exact (show inK .i64 _ by simp only [inK]; (first | omega | (simp only [List.length_append, List.length_nil, List.length_cons, List.length_take, List.length_drop] at *; omega)))
    all_goals (first | rfl | (simp [*]; done))
  · -- F
    refine VD.gn rfl rfl (.inl ⟨_, rfl, rfl⟩) ?_
    refine VD.gn rfl rfl (.inl ⟨_, rfl, rfl⟩) ?_
    refine VD.gn rfl rfl (.inl ⟨_, rfl, rfl⟩) ?_
    refine VD.gn rfl rfl (.inl ⟨_, rfl, rfl⟩) ?_
    refine VD.gn rfl rfl (.inl ⟨_, rfl, rfl⟩) ?_
    refine VD.gn rfl rfl (.inl ⟨_, rfl, rfl⟩) ?_
    refine VD.gn rfl rfl (.inl ⟨_, rfl, rfl⟩) ?_
    refine VD.gn rfl rfl (.inl ⟨_, rfl, rfl⟩) ?_
    refine VD.gn rfl rfl (.inl ⟨_, rfl, rfl⟩) ?_
    refine VD.nil rfl ?_ rfl
    refine VO.gN ?_
    refine VO.y rfl (.pF rfl rfl) ?_
    refine VO.as ?_
    refine VO.k2 0 2 ?_
    refine outN ?_
    refine VC.ret ?_
    refine ⟨_, _, res_run (rs := [.tmp 2]) rfl (.tmp rfl .nil), fun W_ hI => out_of (l := [mone g0 (.cells [Value.slice A0_0 (d0.1.length) (c0_0), Value.int .i64 (d0.2.1), Value.bool d0.2.2].toArray E0 (0, 0))]) hI [1] rfl rfl (mle_refl _) (fun hS_ => ?_)⟩
    dsimp only [packV]
    refine ⟨?_, ?_, ?_⟩
    rotate_left
    · rw [muns_one]
    · exact (show inK .i64 _ by simp only [inK]; (first | omega | (simp only [List.length_append, List.length_nil, List.length_cons, List.length_take, List.length_drop] at *; omega)))
    all_goals (first | rfl | (simp [*]; done))
theorem c4Decode_ok (W : World) {v0 : Value} {d0 : List UInt8} (h0 : Rd (.sl .byte) (wm W) [v0] d0) : CallR Try.prog 97 [v0] W (mnil) (fun v m' => ∃ (s0 : List Value), v = .tuple #[.agg s0.toArray, .int .i64 ((cDecode d0).2)] ∧ Ow TCommit m' s0 ((cDecode d0).1)) := by
  obtain ⟨A0, c0, rfl, l0, k0⟩ := h0.slice
  simp only [maxLen] at k0
  refine CallR.ofA (n := 27) Try.func97 rfl rfl rfl ?_
  refine VC.rs ?_
  refine VO.alloc 102 rfl tz32 (fun g1 => ?_)
  refine VO.as ?_
  refine VO.k3 0 2 3 ?_
  refine VC.rs ?_
  refine VO.mv ?_
  refine VO.y rfl (.bst (cs := [Value.slice A0 (d0.length) (c0), Value.int .i64 (0), Value.bool false]) rfl tst117 tz117 rfl) ?_
  refine VO.box (cs := [Value.slice A0 (d0.length) (c0), Value.int .i64 (0), Value.bool false]) 104 rfl rfl rfl (fun g3 => ?_)
  refine VO.as ?_
  refine VO.k4 0 2 3 4 ?_
  refine VC.rs ?_
  refine VO.mv ?_
  refine VO.call 104 rfl fnOk95 rfl rfl (fun W hW => rSmall_ok W (d0 := (d0, 0, false)) (hW.at (i := 104) rfl) (Rd.mono h0 (hW.out (i := 104) (j := 0) rfl rfl)) bdk 1048576 bdk (by first | assumption | exact ⟨by omega, by omega⟩ | exact ⟨by (simp; done), by (simp; done)⟩)) (fun v5 m5 hv5 => ?_)
  try dsimp only at hv5
  obtain ⟨rfl, rfl, w5_0_1⟩ := hv5
  have hfa6 := (rNum_ok (B := d0) (m := 1048576) (s := (0, false)) (by first | assumption | exact ⟨by omega, by omega⟩ | exact ⟨by (simp; done), by (simp; done)⟩) (by omega)).1
  have hfa7 := (rNum_ok (B := d0) (m := 1048576) (s := (0, false)) (by first | assumption | exact ⟨by omega, by omega⟩ | exact ⟨by (simp; done), by (simp; done)⟩) (by omega)).1.1
  have hfa8 := (rNum_ok (B := d0) (m := 1048576) (s := (0, false)) (by first | assumption | exact ⟨by omega, by omega⟩ | exact ⟨by (simp; done), by (simp; done)⟩) (by omega)).1.2
  have hfa9 := (rNum_ok (B := d0) (m := 1048576) (s := (0, false)) (by first | assumption | exact ⟨by omega, by omega⟩ | exact ⟨by (simp; done), by (simp; done)⟩) (by omega)).2
  simp only [inK] at w5_0_1
  refine VO.mv ?_
  refine VO.call 104 rfl fnOk95 rfl rfl (fun W hW => rSmall_ok W (d0 := (d0, (rNum d0 1048576 (0, false)).2)) (hW.at (i := 104) rfl) (Rd.mono h0 (hW.out (i := 104) (j := 0) rfl rfl)) bdk 1048576 bdk (by first | assumption | exact ⟨by omega, by omega⟩ | exact ⟨by (simp; done), by (simp; done)⟩)) (fun v10 m10 hv10 => ?_)
  try dsimp only at hv10
  obtain ⟨rfl, rfl, w10_0_1⟩ := hv10
  have hfa11 := (rNum_ok (B := d0) (m := 1048576) (s := ((rNum d0 1048576 (0, false)).2)) (by first | assumption | exact ⟨by omega, by omega⟩ | exact ⟨by (simp; done), by (simp; done)⟩) (by omega)).1
  have hfa12 := (rNum_ok (B := d0) (m := 1048576) (s := ((rNum d0 1048576 (0, false)).2)) (by first | assumption | exact ⟨by omega, by omega⟩ | exact ⟨by (simp; done), by (simp; done)⟩) (by omega)).1.1
  have hfa13 := (rNum_ok (B := d0) (m := 1048576) (s := ((rNum d0 1048576 (0, false)).2)) (by first | assumption | exact ⟨by omega, by omega⟩ | exact ⟨by (simp; done), by (simp; done)⟩) (by omega)).1.2
  have hfa14 := (rNum_ok (B := d0) (m := 1048576) (s := ((rNum d0 1048576 (0, false)).2)) (by first | assumption | exact ⟨by omega, by omega⟩ | exact ⟨by (simp; done), by (simp; done)⟩) (by omega)).2
  simp only [inK] at w10_0_1
  refine VO.y rfl (.bst (cs := [Value.int .i64 ((rNum d0 1048576 (0, false)).1), Value.int .i64 ((rNum d0 1048576 ((rNum d0 1048576 (0, false)).2)).1), Value.slice none (0) (0)]) rfl tst32 tz32 rfl) ?_
  refine VO.alloc 116 rfl tz32 (fun g15 => ?_)
  refine VO.store (k := 3) (c' := [Value.int .i64 ((rNum d0 1048576 (0, false)).1), Value.int .i64 ((rNum d0 1048576 ((rNum d0 1048576 (0, false)).2)).1), Value.slice none (0) (0)]) 116 rfl rfl (.inl tk32) rfl rfl rfl rfl rfl ?_
  refine VO.kp [116, 104, 102, 0] [(116, mone g15 (.cells [Value.int .i64 ((rNum d0 1048576 (0, false)).1), Value.int .i64 ((rNum d0 1048576 ((rNum d0 1048576 (0, false)).2)).1), Value.slice none (0) (0)].toArray 32 (0, 0))), (104, mone g3 (.cells [Value.slice A0 (d0.length) (c0), Value.int .i64 ((rNum d0 1048576 ((rNum d0 1048576 (0, false)).2)).2.1), Value.bool ((rNum d0 1048576 ((rNum d0 1048576 (0, false)).2)).2.2)].toArray 117 (0, 0))), (102, mone g1 (.cells [Value.int .i64 (0), Value.int .i64 (0), Value.slice none (0) (0)].toArray 32 (0, 0))), (0, wm W)] ?_
  refine VO.k5 0 2 3 4 5 ?_
  refine VC.rs ?_
  refine VO.mv ?_
  refine VO.call 104 rfl fnOk115 rfl rfl (fun W hW => rNext_ok W (d0 := (d0, (rNum d0 1048576 ((rNum d0 1048576 (0, false)).2)).2)) (hW.at (i := 104) rfl) (Rd.mono h0 (hW.out (i := 104) (j := 0) rfl rfl)) bdk (by first | assumption | exact ⟨by omega, by omega⟩ | exact ⟨by (simp; done), by (simp; done)⟩)) (fun v17 m17 hv17 => ?_)
  try dsimp only at hv17
  obtain ⟨s17_0, p17_0, rfl, hS17, f17_0, w17_0_1⟩ := hv17
  refine VO.inv _ (fun _ h => h.parts (i := 104) rfl hS17 [118, 119]) ?_
  have hfa20 := (nextRef_ok (B := d0) (s := ((rNum d0 1048576 ((rNum d0 1048576 (0, false)).2)).2)) (by first | assumption | exact ⟨by omega, by omega⟩ | exact ⟨by (simp; done), by (simp; done)⟩))
  have hfa21 := (nextRef_ok (B := d0) (s := ((rNum d0 1048576 ((rNum d0 1048576 (0, false)).2)).2)) (by first | assumption | exact ⟨by omega, by omega⟩ | exact ⟨by (simp; done), by (simp; done)⟩)).1
  have hfa22 := (nextRef_ok (B := d0) (s := ((rNum d0 1048576 ((rNum d0 1048576 (0, false)).2)).2)) (by first | assumption | exact ⟨by omega, by omega⟩ | exact ⟨by (simp; done), by (simp; done)⟩)).2
  simp only [inK] at w17_0_1
  obtain ⟨A17_0, c17_0, eq17_0, l17_0, k17_0⟩ := f17_0.slice
  subst eq17_0
  simp only [maxLen] at k17_0
  refine VO.y rfl (.fa rfl tst32 rfl) ?_
  refine VO.store (k := 1) (c' := [Value.int .i64 ((rNum d0 1048576 (0, false)).1), Value.int .i64 ((rNum d0 1048576 ((rNum d0 1048576 (0, false)).2)).1), Value.slice A17_0 (((nextRef d0 ((rNum d0 1048576 ((rNum d0 1048576 (0, false)).2)).2)).1).length) (c17_0)]) 116 rfl rfl (.inr ⟨tk30, rfl⟩) rfl rfl rfl rfl rfl ?_
  refine VO.k5 0 2 3 4 5 ?_
  refine VC.seq ?_
  refine VC.rs ?_
  refine VO.mv ?_
  refine VO.call 119 rfl fnOk96 rfl rfl (fun W hW => rDone_ok W (d0 := (d0, (nextRef d0 ((rNum d0 1048576 ((rNum d0 1048576 (0, false)).2)).2)).2)) (hW.at (i := 119) rfl) (Rd.mono h0 (hW.out (i := 119) (j := 0) rfl rfl)) bdk) (fun v23 m23 hv23 => ?_)
  try dsimp only at hv23
  obtain ⟨rfl, rfl, w23_0_1⟩ := hv23
  simp only [inK] at w23_0_1
  refine VO.y rfl (.notD rfl) ?_
  refine VO.mv ?_
  refine VO.dec (t := 20) rfl (fun hc24 => ?_) (fun hc24 => ?_)
  · -- T
    refine VO.gN ?_
    refine VO.gN ?_
    refine VO.gN ?_
    refine VO.y rfl (.pT rfl rfl) ?_
    refine VO.k6 0 2 3 4 5 24 ?_
    refine VC.condT rfl ?_
    refine VC.rs ?_
    refine VO.y rfl (.bst (cs := [Value.int .i64 (0), Value.int .i64 (0), Value.slice none (0) (0)]) rfl tst32 tz32 rfl) ?_
    refine VO.store (k := 3) (c' := [Value.int .i64 (0), Value.int .i64 (0), Value.slice none (0) (0)]) 102 rfl rfl (.inl tk32) rfl rfl rfl rfl rfl ?_
    refine VO.as ?_
    refine VO.kp [119, 118, 116, 102, 0] [(119, mone g3 (.cells [Value.slice A0 (d0.length) (c0), Value.int .i64 (((nextRef d0 ((rNum d0 1048576 ((rNum d0 1048576 (0, false)).2)).2)).2.1)), Value.bool ((nextRef d0 ((rNum d0 1048576 ((rNum d0 1048576 (0, false)).2)).2)).2.2)].toArray 117 (0, 0))), (118, p17_0), (116, mone g15 (.cells [Value.int .i64 ((rNum d0 1048576 (0, false)).1), Value.int .i64 ((rNum d0 1048576 ((rNum d0 1048576 (0, false)).2)).1), Value.slice A17_0 (((nextRef d0 ((rNum d0 1048576 ((rNum d0 1048576 (0, false)).2)).2)).1).length) (c17_0)].toArray 32 (0, 0))), (102, mone g1 (.cells [Value.int .i64 (0), Value.int .i64 (0), Value.slice none (0) (0)].toArray 32 (0, 0))), (0, wm W)] ?_
    refine VO.k6 0 2 3 4 5 24 ?_
    refine VC.ret ?_
    refine outR ?_
    refine ⟨_, _, res_run (rs := [.cell 2 32, .tmp 3]) rfl (.agg 102 rfl tk32 rfl ⟨_, _, _, mone_self _ _, Nat.le_of_ble_eq_true rfl, rfl⟩ (.tmp rfl .nil)), fun W_ hI => out_of (l := []) hI [] rfl rfl (mle_refl _) (fun hS_ => ?_)⟩
    dsimp only [packV]
    have he0 : ((cDecode d0).1 : Ty.Den TCommit) = (0, 0, []) := by first | rfl | (first | (rw [rDecode_no1 (by assumption)] <;> rfl) | (rw [rDecode_no2 (by assumption)] <;> rfl) | (rw [rDecode_yes (by assumption) (by assumption)] <;> rfl))
    refine ⟨[Value.int .i64 (0), Value.int .i64 (0), Value.slice none (0) (0)], ?_, ?_⟩
    rotate_left
    · rw [he0]; exact (mkO_Commit 0 0 [] (Seps.nilAt 0 hS_) bdk bdk (Ow.nil _ _))
    all_goals (first | rfl | (first | (rw [rDecode_no1 (by assumption)] <;> rfl) | (rw [rDecode_no2 (by assumption)] <;> rfl) | (rw [rDecode_yes (by assumption) (by assumption)] <;> rfl)))
  · -- F
    refine VO.gy rfl ⟨_, rfl, rfl⟩ (.ldA 116 rfl tk32 rfl (cellsAt_one rfl rfl)) ?_
    refine VO.gcallN 125 rfl ⟨_, rfl, rfl⟩ fnOk98 rfl (fun W hW => c4Check_ok W (mk_Commit (m := wm W) ((rNum d0 1048576 (0, false)).1) ((rNum d0 1048576 ((rNum d0 1048576 (0, false)).2)).1) ((nextRef d0 ((rNum d0 1048576 ((rNum d0 1048576 (0, false)).2)).2)).1) bdk bdk (OwnL.rd (Ow.ownl f17_0 rfl mnil) (hW.at (i := 118) rfl) (mle_nil _)))) (fun v25 m25 hv25 => ?_)
    try dsimp only at hv25
    subst hv25
    have hfa26 := cCheck_range ((rNum d0 1048576 (0, false)).1, (rNum d0 1048576 ((rNum d0 1048576 (0, false)).2)).1, (nextRef d0 ((rNum d0 1048576 ((rNum d0 1048576 (0, false)).2)).2)).1)
    refine VO.gy rfl ⟨_, rfl, rfl⟩ (.neq rfl rfl) ?_
    refine VO.y rfl (.pF rfl rfl) ?_
    refine VO.k6 0 2 3 4 5 24 ?_
    refine VC.cond rfl (fun hc27 => ?_) (fun hc27 => ?_)
    · -- FT
      refine VC.rs ?_
      refine VO.y rfl (.bst (cs := [Value.int .i64 (0), Value.int .i64 (0), Value.slice none (0) (0)]) rfl tst32 tz32 rfl) ?_
      refine VO.store (k := 3) (c' := [Value.int .i64 (0), Value.int .i64 (0), Value.slice none (0) (0)]) 102 rfl rfl (.inl tk32) rfl rfl rfl rfl rfl ?_
      refine VO.as ?_
      refine VO.kp [119, 118, 116, 102, 0] [(119, mone g3 (.cells [Value.slice A0 (d0.length) (c0), Value.int .i64 (((nextRef d0 ((rNum d0 1048576 ((rNum d0 1048576 (0, false)).2)).2)).2.1)), Value.bool ((nextRef d0 ((rNum d0 1048576 ((rNum d0 1048576 (0, false)).2)).2)).2.2)].toArray 117 (0, 0))), (118, p17_0), (116, mone g15 (.cells [Value.int .i64 ((rNum d0 1048576 (0, false)).1), Value.int .i64 ((rNum d0 1048576 ((rNum d0 1048576 (0, false)).2)).1), Value.slice A17_0 (((nextRef d0 ((rNum d0 1048576 ((rNum d0 1048576 (0, false)).2)).2)).1).length) (c17_0)].toArray 32 (0, 0))), (102, mone g1 (.cells [Value.int .i64 (0), Value.int .i64 (0), Value.slice none (0) (0)].toArray 32 (0, 0))), (0, wm W)] ?_
      refine VO.k6 0 2 3 4 5 24 ?_
      refine VC.ret ?_
      refine outR ?_
      refine ⟨_, _, res_run (rs := [.cell 2 32, .tmp 3]) rfl (.agg 102 rfl tk32 rfl ⟨_, _, _, mone_self _ _, Nat.le_of_ble_eq_true rfl, rfl⟩ (.tmp rfl .nil)), fun W_ hI => out_of (l := []) hI [] rfl rfl (mle_refl _) (fun hS_ => ?_)⟩
      dsimp only [packV]
      have he0 : ((cDecode d0).1 : Ty.Den TCommit) = (0, 0, []) := by first | rfl | (first | (rw [rDecode_no1 (by assumption)] <;> rfl) | (rw [rDecode_no2 (by assumption)] <;> rfl) | (rw [rDecode_yes (by assumption) (by assumption)] <;> rfl))
      refine ⟨[Value.int .i64 (0), Value.int .i64 (0), Value.slice none (0) (0)], ?_, ?_⟩
      rotate_left
      · rw [he0]; exact (mkO_Commit 0 0 [] (Seps.nilAt 0 hS_) bdk bdk (Ow.nil _ _))
      all_goals (first | rfl | (first | (rw [rDecode_no1 (by assumption)] <;> rfl) | (rw [rDecode_no2 (by assumption)] <;> rfl) | (rw [rDecode_yes (by assumption) (by assumption)] <;> rfl)))
    · -- FF
      refine VC.skip ?_
      refine outN ?_
      refine VC.rs ?_
      refine VO.y rfl (.ldA 116 rfl tk32 rfl (cellsAt_one rfl rfl)) ?_
      refine VO.store (k := 3) (c' := [Value.int .i64 ((rNum d0 1048576 (0, false)).1), Value.int .i64 ((rNum d0 1048576 ((rNum d0 1048576 (0, false)).2)).1), Value.slice A17_0 (((nextRef d0 ((rNum d0 1048576 ((rNum d0 1048576 (0, false)).2)).2)).1).length) (c17_0)]) 102 rfl rfl (.inl tk32) rfl rfl rfl rfl rfl ?_
      refine VO.as ?_
      refine VO.kp [119, 118, 116, 102, 0] [(119, mone g3 (.cells [Value.slice A0 (d0.length) (c0), Value.int .i64 (((nextRef d0 ((rNum d0 1048576 ((rNum d0 1048576 (0, false)).2)).2)).2.1)), Value.bool ((nextRef d0 ((rNum d0 1048576 ((rNum d0 1048576 (0, false)).2)).2)).2.2)].toArray 117 (0, 0))), (118, p17_0), (116, mone g15 (.cells [Value.int .i64 ((rNum d0 1048576 (0, false)).1), Value.int .i64 ((rNum d0 1048576 ((rNum d0 1048576 (0, false)).2)).1), Value.slice A17_0 (((nextRef d0 ((rNum d0 1048576 ((rNum d0 1048576 (0, false)).2)).2)).1).length) (c17_0)].toArray 32 (0, 0))), (102, mone g1 (.cells [Value.int .i64 ((rNum d0 1048576 (0, false)).1), Value.int .i64 ((rNum d0 1048576 ((rNum d0 1048576 (0, false)).2)).1), Value.slice A17_0 (((nextRef d0 ((rNum d0 1048576 ((rNum d0 1048576 (0, false)).2)).2)).1).length) (c17_0)].toArray 32 (0, 0))), (0, wm W)] ?_
      refine VO.k6 0 2 3 4 5 24 ?_
      refine VC.ret ?_
      refine ⟨_, _, res_run (rs := [.cell 2 32, .tmp 3]) rfl (.agg 102 rfl tk32 rfl ⟨_, _, _, mone_self _ _, Nat.le_of_ble_eq_true rfl, rfl⟩ (.tmp rfl .nil)), fun W_ hI => out_of (l := [p17_0]) hI [118] rfl rfl (mle_refl _) (fun hS_ => ?_)⟩
      dsimp only [packV]
      have he0 : ((cDecode d0).1 : Ty.Den TCommit) = ((rNum d0 1048576 (0, false)).1, (rNum d0 1048576 ((rNum d0 1048576 (0, false)).2)).1, (nextRef d0 ((rNum d0 1048576 ((rNum d0 1048576 (0, false)).2)).2)).1) := by first | rfl | (first | (rw [rDecode_no1 (by assumption)] <;> rfl) | (rw [rDecode_no2 (by assumption)] <;> rfl) | (rw [rDecode_yes (by assumption) (by assumption)] <;> rfl))
      refine ⟨[Value.int .i64 ((rNum d0 1048576 (0, false)).1), Value.int .i64 ((rNum d0 1048576 ((rNum d0 1048576 (0, false)).2)).1), Value.slice A17_0 (((nextRef d0 ((rNum d0 1048576 ((rNum d0 1048576 (0, false)).2)).2)).1).length) (c17_0)], ?_, ?_⟩
      rotate_left
      · rw [he0]; exact (mkO_Commit ((rNum d0 1048576 (0, false)).1) ((rNum d0 1048576 ((rNum d0 1048576 (0, false)).2)).1) ((nextRef d0 ((rNum d0 1048576 ((rNum d0 1048576 (0, false)).2)).2)).1) hS_ bdk bdk (OwnL.ow (Ow.ownl f17_0 rfl mnil) rfl))
      all_goals (first | rfl | (first | (rw [rDecode_no1 (by assumption)] <;> rfl) | (rw [rDecode_no2 (by assumption)] <;> rfl) | (rw [rDecode_yes (by assumption) (by assumption)] <;> rfl)))
end
section
set_option linter.unusedVariables false
abbrev TLCommit : Ty := .pair (.int .i64) (.pair (.int .i64) (.spl TOp))
abbrev DLCommit := Int × Int × (List DOp × List DOp)
theorem open_LCommit {m : Mem} {cs : List Value} {x0 : Int} {x1 : Int} {x2 : List DOp × List DOp} (h : Rd TLCommit m cs (x0, x1, x2)) : ∃ (A2 : Option Addr), ∃ (c2 : Nat), cs = [(.int .i64 x0 : Value), .int .i64 x1, .slice A2 x2.1.length c2] ∧ inK .i64 x0 ∧ inK .i64 x1 ∧ Rd (.spl TOp) m [.slice A2 x2.1.length c2] x2 := by
  obtain ⟨p1, q1, rfl, u1, w1⟩ := Rd.pair h
  obtain ⟨rfl, z2⟩ := (show _ = _ ∧ _ from u1)
  obtain ⟨p3, q3, rfl, u3, w3⟩ := Rd.pair w1
  obtain ⟨rfl, z4⟩ := (show _ = _ ∧ _ from u3)
  have z5 := w3
  obtain ⟨A5, c5, rfl, _⟩ := Rd.spl1 w3
  exact ⟨A5, c5, rfl, z2, z4, z5⟩
theorem openO_LCommit {m : Mem} {cs : List Value} {x0 : Int} {x1 : Int} {x2 : List DOp × List DOp} (h : Ow TLCommit m cs (x0, x1, x2)) : ∃ (A2 : Option Addr), ∃ (c2 : Nat), ∃ (n2 : Mem), cs = [(.int .i64 x0 : Value), .int .i64 x1, .slice A2 x2.1.length c2] ∧ Seps m [n2] ∧ inK .i64 x0 ∧ inK .i64 x1 ∧ Ow (.spl TOp) n2 [.slice A2 x2.1.length c2] x2 := by
  obtain ⟨p1, q1, ma1, mb1, rfl, dj1, la1, lb1, u1, w1⟩ := Ow.pair h
  obtain ⟨rfl, z2⟩ := (show _ = _ ∧ _ from u1)
  obtain ⟨p3, q3, ma3, mb3, rfl, dj3, la3, lb3, u3, w3⟩ := Ow.pair w1
  obtain ⟨rfl, z4⟩ := (show _ = _ ∧ _ from u3)
  have z5 := w3
  obtain ⟨A5, c5, rfl, _⟩ := Ow.spl1 w3
  exact ⟨A5, c5, _, rfl, (Seps.app dj1 la1 lb1 (Seps.nil _) (Seps.app dj3 la3 lb3 (Seps.nil _) (Seps.one (mle_refl _)))), z2, z4, z5⟩
theorem mkO_LCommit {m : Mem} {n2 : Mem} (x0 : Int) (x1 : Int) (x2 : List DOp × List DOp) (hS : Seps m [n2]) (h0 : inK .i64 x0) (h1 : inK .i64 x1) {v2 : Value} (h2 : Ow (.spl TOp) n2 [v2] x2) : Ow TLCommit m [.int .i64 x0, .int .i64 x1, v2] (x0, x1, x2) := by
  obtain ⟨e1, la1, lb1, Sa1, Sb1⟩ := Seps.cut (l := []) (r := [n2]) hS
  obtain ⟨e2, la2, lb2, Sa2, Sb2⟩ := Seps.cut (l := []) (r := [n2]) Sb1
  exact (Ow.mkPair (c1 := [_]) e1 la1 lb1 (show Ow (.int .i64) _ [_] _ from ⟨rfl, h0⟩) (Ow.mkPair (c1 := [_]) e2 la2 lb2 (show Ow (.int .i64) _ [_] _ from ⟨rfl, h1⟩) (h2.up (Sb2.1 _ (.head _)))))
abbrev THC : Ty := .pair (.int .i64) (.pair (.int .i64) .hdr)
abbrev DHC := Int × Int × Hd
instance decHC : DecidableEq DHC := (@instDecidableEqProd _ _ inferInstance (@instDecidableEqProd _ _ inferInstance inferInstance))
theorem open_HC {m : Mem} {cs : List Value} {x0 : Int} {x1 : Int} {x2 : Hd} (h : Rd THC m cs (x0, x1, x2)) : cs = [(.int .i64 x0 : Value), .int .i64 x1, .slice x2.1 x2.2.1 x2.2.2] ∧ inK .i64 x0 ∧ inK .i64 x1 := by
  obtain ⟨p1, q1, rfl, u1, w1⟩ := Rd.pair h
  obtain ⟨rfl, z2⟩ := (show _ = _ ∧ _ from u1)
  obtain ⟨p3, q3, rfl, u3, w3⟩ := Rd.pair w1
  obtain ⟨rfl, z4⟩ := (show _ = _ ∧ _ from u3)
  obtain rfl := (show _ = _ from w3)
  exact ⟨rfl, z2, z4⟩
theorem mk_HC {m : Mem} (x0 : Int) (x1 : Int) (x2 : Hd) (h0 : inK .i64 x0) (h1 : inK .i64 x1) : Rd THC m [.int .i64 x0, .int .i64 x1, .slice x2.1 x2.2.1 x2.2.2] (x0, x1, x2) := (Rd.mkPair (c1 := [_]) (show Rd (.int .i64) m [_] _ from ⟨rfl, h0⟩) (Rd.mkPair (c1 := [_]) (show Rd (.int .i64) m [_] _ from ⟨rfl, h1⟩) (show Rd .hdr m [_] _ from rfl)))
end
section
set_option linter.unusedVariables false
def lentC (c : DCommit) : DLCommit := (c.1, c.2.1, c.2.2, spareO)
def spareC : List DLCommit := [(-7, 0, [], []), (-7, 0, [], []), (-7, 0, [], [])]
def fgC (c : DLCommit) : DCommit := (c.1, c.2.1, c.2.2.1)
theorem fg_lent (l : List DCommit) : (l.map lentC).map fgC = l := by
  rw [List.map_map]; exact List.map_id l
theorem lent_take (l : List DCommit) : ((l.map lentC ++ spareC).take l.length) = l.map lentC := by
  rw [List.take_append_of_le_length (by simp), List.take_of_length_le (by simp)]
theorem lent_fg (l : List DCommit) : ((l.map lentC ++ spareC).take l.length).map fgC = l := by rw [lent_take, fg_lent]
theorem fgC_rd1 {m : Mem} {c : List Value} {x : DLCommit} (h : Rd TLCommit m c x) : Rd TCommit m c (fgC x) := by
  obtain ⟨A, k, rfl, z0, z1, z2⟩ := open_LCommit (x0 := x.1) (x1 := x.2.1) (x2 := x.2.2) h
  exact mk_Commit (m := m) _ _ _ z0 z1 (Rd.pre2 (Rd.full z2).2)
theorem fgC_rd {m : Mem} {cs : List Value} {l : List DLCommit} (h : Rd (.sl TLCommit) m cs l) : Rd (.sl TCommit) m cs (l.map fgC) := Rd.mapL (e := TLCommit) (e' := TCommit) fgC rfl (fun _ _ _ h => fgC_rd1 h) h
theorem lent_rd {m : Mem} {cs : List Value} {l : List DCommit} (h : Rd (.sl TLCommit) m cs ((l.map lentC ++ spareC).take l.length)) : Rd (.sl TCommit) m cs l := by
  have h2 := fgC_rd h
  rwa [lent_fg] at h2
theorem lent_len (l : List DCommit) : (l.map lentC ++ spareC).length = l.length + 3 := by simp [spareC]
theorem lent_next {out : List DLCommit} {l0 : List DCommit} {k : Nat} {c : DCommit} (h : out = (l0.take k).map lentC) (hc : l0[k]? = some c) : out ++ [lentC c] = (l0.take (k + 1)).map lentC := by
  rw [h, take_one hc, List.map_append]; rfl
theorem spareC_next {out d : List DLCommit} {k : Nat} (h : out = d ++ spareC.take k) (hk : k < 3) : out ++ [(-7, 0, [], [])] = d ++ spareC.take (k + 1) := by
  rw [h, List.append_assoc]
  congr 1
  rcases k with _ | _ | _ | k
  · rfl
  · rfl
  · rfl
  · omega
theorem lent_at {full : List DLCommit} {l : List DCommit} {k : Nat} {x : DLCommit} {c : DCommit} (e : full = l.map lentC ++ spareC) (hx : full[k]? = some x) (hc : l[k]? = some c) : x = lentC c := by
  obtain ⟨hk, _⟩ := List.getElem?_eq_some_iff.1 hc
  rw [e, List.getElem?_append_left (by simpa using hk), List.getElem?_map, hc] at hx
  exact (Option.some.inj hx).symm
theorem spare_at {full : List DLCommit} {l : List DCommit} {k : Nat} {x : DLCommit} (h : full = l.map lentC ++ spareC) (hk : l.length ≤ k) (hx : full[k]? = some x) : x = (-7, 0, [], []) := by
  obtain ⟨hk2, _⟩ := List.getElem?_eq_some_iff.1 hx
  rw [h, lent_len] at hk2
  rw [h, List.getElem?_append_right (by simpa using hk), List.length_map] at hx
  have h3 : k - l.length = 0 ∨ k - l.length = 1 ∨ k - l.length = 2 := by omega
  rcases h3 with e | e | e <;> rw [e] at hx <;> exact (Option.some.inj hx).symm
theorem opsLent {l : List DOp} {n : Nat} (h : n = l.length) : (l ++ spareO).take (n + 3) = l ++ spareO := by
  rw [List.take_of_length_le]; simp [spareO]; omega
end
section
set_option linter.unusedVariables false
set_option linter.unusedSimpArgs false
set_option maxRecDepth 4000
theorem fnOk52 : fnOk Try.prog 52 = true := by kernel_rfl
theorem fnOk64 : fnOk Try.prog 64 = true := by kernel_rfl
theorem fnOk99 : fnOk Try.prog 99 = true := by kernel_rfl
theorem LentCommit_ok (W : World) {v0 : List Value} {d0 : DCommit} (h0 : Rd TCommit (wm W) v0 d0) (e0 : d0.2.2.length ≤ 3518437208800) : CallR Try.prog 52 [.agg v0.toArray] W (mnil) (fun v m' => ∃ (s0 : List Value), v = .agg s0.toArray ∧ Ow TLCommit m' s0 (lentC d0)) := by
  obtain ⟨p0_A2, p0_c2, rfl, p0_0, p0_1, p0_2⟩ := open_Commit (x0 := d0.1) (x1 := d0.2.1) (x2 := d0.2.2) h0
  simp only [inK] at p0_0
  simp only [inK] at p0_1
  have p0_r2 := Rd.room p0_2
  refine CallR.ofA (n := 15) Try.func52 rfl rfl rfl ?_
  refine VC.rs ?_
  refine VO.box (cs := [Value.int .i64 (d0.1), Value.int .i64 (d0.2.1), Value.slice p0_A2 (d0.2.2.length) (p0_c2)]) 102 rfl rfl rfl (fun g1 => ?_)
  refine VO.alloc 104 rfl tz32 (fun g3 => ?_)
  refine VO.k3 0 1 2 ?_
  refine VC.seq ?_
  refine VC.regD _ 11 [(0, true), (1, true), (2, true), (3, true), (4, true), (5, true), (7, true), (8, true), (9, true), (6, false), (10, true)] follows (by kernel_rfl) (fun _ h => h.sub [104, 102, 0]) ?_
  refine VD.y rfl rfl (.inl rfl) (.fa rfl tst32 rfl) ?_
  refine VD.y rfl rfl (.inl rfl) (.ld1 102 rfl tk3 rfl (cellsAt_one rfl rfl)) ?_
  refine VD.y rfl rfl (.inl rfl) (.fa rfl tst32 rfl) ?_
  refine VD.y rfl rfl (.inl rfl) (.ld1 102 rfl tk3 rfl (cellsAt_one rfl rfl)) ?_
  refine VD.y rfl rfl (.inl rfl) (.fa rfl tst32 rfl) ?_
  refine VD.y rfl rfl (.inl rfl) (.ld1 102 rfl tk30 rfl (cellsAt_one rfl rfl)) ?_
  refine VD.y rfl rfl (.inl rfl) (.fa rfl tst32 rfl) ?_
  refine VD.y rfl rfl (.inl rfl) (.ld1 102 rfl tk30 rfl (cellsAt_one rfl rfl)) ?_
  refine VD.y rfl rfl (.inl rfl) (.lenS rfl tsl30) ?_
  refine VD.callN 105 rfl rfl (.inl rfl) fnOk87 rfl (fun _ h => h.sub [104, 102, 0]) (fun W hW => LentOps_ok W (Rd.mono p0_2 (hW.at (i := 0) rfl)) bd) (fun v5 m5 hv5 => ?_)
  obtain ⟨s5_0, rfl, f5_0⟩ := hv5
  obtain ⟨A5_0, c5_0, eq5_0, l5_0, k5_0⟩ := f5_0.slice
  subst eq5_0
  simp only [maxLen] at k5_0
  have hs6 := (OwnL.rd (Ow.ownl f5_0 rfl mnil) (mle_refl _) (mle_nil _)).pre (j := d0.2.2.length) bd
  rw [List.take_left] at hs6
  refine VD.y rfl rfl (.inl rfl) (.slHI d0.2.2.length rfl rfl tsl30 rfl bd) ?_
  refine VD.nil rfl ?_ rfl
  refine VO.y rfl (.bst (cs := [Value.int .i64 (d0.1), Value.int .i64 (d0.2.1), Value.slice A5_0 (d0.2.2.length) (c5_0)]) rfl tst32 tz32 rfl) ?_
  refine VO.store (k := 3) (c' := [Value.int .i64 (d0.1), Value.int .i64 (d0.2.1), Value.slice A5_0 (d0.2.2.length) (c5_0)]) 104 rfl rfl (.inl tk32) rfl rfl rfl rfl rfl ?_
  refine VO.k3 0 1 2 ?_
  refine outN ?_
  refine VC.ret ?_
  refine ⟨_, _, res_run (rs := [.cell 2 32]) rfl (.agg 104 rfl tk32 rfl ⟨_, _, _, mone_self _ _, Nat.le_of_ble_eq_true rfl, rfl⟩ .nil), fun W_ hI => out_of (l := [m5]) hI [105] rfl rfl (mle_refl _) (fun hS_ => ?_)⟩
  dsimp only [packV]
  have he0 : (lentC d0 : Ty.Den TLCommit) = (d0.1, d0.2.1, (d0.2.2, spareO)) := by first | rfl | (simp [*]; done)
  refine ⟨[Value.int .i64 (d0.1), Value.int .i64 (d0.2.1), Value.slice A5_0 (d0.2.2.length) (c5_0)], ?_, ?_⟩
  rotate_left
  · rw [he0]; exact (mkO_LCommit d0.1 d0.2.1 (d0.2.2, spareO) hS_ bdk bdk (Ow.mkSpl (e := TOp) (xs := d0.2.2) (ys := spareO) (OwnL.ow (Ow.ownl f5_0 rfl mnil) rfl) (by first | rfl | simp)))
  all_goals (first | rfl | (simp [*]; done))
theorem KeptCommit_ok (W : World) {v0 : List Value} {d0 : DLCommit} (h0 : Rd TLCommit (wm W) v0 d0) {v1 : List Value} {d1 : DCommit} (h1 : Rd TCommit (wm W) v1 d1) (e0 : d0 = lentC d1) (e1 : d1.2.2.length ≤ 3518437208800) : CallR Try.prog 64 [.agg v0.toArray, .agg v1.toArray] W (mnil) (fun v m' => v = .bool true) := by
  have ea := congrArg Prod.fst e0; have eb := congrArg (fun x => x.2.1) e0; have ec := congrArg (fun x => x.2.2.1) e0; have ed := congrArg (fun x => x.2.2.2) e0; simp only [lentC] at ea eb ec ed; have el := congrArg List.length ec; have em := congrArg List.length ed; simp only [spareO, List.length_cons, List.length_nil] at em
  obtain ⟨p0_A2, p0_c2, rfl, p0_0, p0_1, p0_2⟩ := open_LCommit (x0 := d0.1) (x1 := d0.2.1) (x2 := d0.2.2) h0
  simp only [inK] at p0_0
  simp only [inK] at p0_1
  have p0_f2 := (Rd.full p0_2).2
  have p0_s2 := Rd.pre2 p0_f2
  have p0_r2 := Rd.room p0_f2
  obtain ⟨p1_A2, p1_c2, rfl, p1_0, p1_1, p1_2⟩ := open_Commit (x0 := d1.1) (x1 := d1.2.1) (x2 := d1.2.2) h1
  simp only [inK] at p1_0
  simp only [inK] at p1_1
  have p1_r2 := Rd.room p1_2
  refine CallR.ofA (n := 38) Try.func64 rfl rfl rfl ?_
  refine VC.rs ?_
  refine VO.box (cs := [Value.int .i64 (d0.1), Value.int .i64 (d0.2.1), Value.slice p0_A2 (d0.2.2.1.length) (p0_c2)]) 102 rfl rfl rfl (fun g1 => ?_)
  refine VO.box (cs := [Value.int .i64 (d1.1), Value.int .i64 (d1.2.1), Value.slice p1_A2 (d1.2.2.length) (p1_c2)]) 104 rfl rfl rfl (fun g3 => ?_)
  refine VO.as ?_
  refine VO.k5 0 1 2 3 4 ?_
  refine VC.seq ?_
  refine VC.regD _ 31 [(0, true), (1, true), (2, true), (3, true), (4, true), (5, true), (6, true), (7, true), (8, true), (9, true), (10, true), (11, true), (12, true), (13, true), (14, true), (15, true), (16, true), (17, true), (18, true), (19, true), (20, true), (21, true), (22, true), (23, true), (24, true), (25, true), (26, true), (27, true), (28, true), (29, true), (30, true)] follows (by kernel_rfl) (fun _ h => h.sub [104, 102, 0]) ?_
  refine VD.y rfl rfl (.inl rfl) (.fa rfl tst32 rfl) ?_
  refine VD.y rfl rfl (.inl rfl) (.ld1 102 rfl tk3 rfl (cellsAt_one rfl rfl)) ?_
  refine VD.y rfl rfl (.inl rfl) (.fa rfl tst32 rfl) ?_
  refine VD.y rfl rfl (.inl rfl) (.ld1 104 rfl tk3 rfl (cellsAt_one rfl rfl)) ?_
  refine VD.y rfl rfl (.inl rfl) (.eql rfl rfl) ?_
  refine VD.y rfl rfl (.inl rfl) (.mv rfl) ?_
  refine VD.dec (s := 10) rfl (fun hc5 => ?_) (fun hc5 => ?_)
  · -- T
    refine VD.y rfl rfl (.inr ⟨_, _, rfl, _, rfl, rfl⟩) (.fa rfl tst32 rfl) ?_
    refine VD.y rfl rfl (.inr ⟨_, _, rfl, _, rfl, rfl⟩) (.ld1 102 rfl tk3 rfl (cellsAt_one rfl rfl)) ?_
    refine VD.y rfl rfl (.inr ⟨_, _, rfl, _, rfl, rfl⟩) (.fa rfl tst32 rfl) ?_
    refine VD.y rfl rfl (.inr ⟨_, _, rfl, _, rfl, rfl⟩) (.ld1 104 rfl tk3 rfl (cellsAt_one rfl rfl)) ?_
    refine VD.y rfl rfl (.inr ⟨_, _, rfl, _, rfl, rfl⟩) (.eql rfl rfl) ?_
    refine VD.y rfl rfl (.inl rfl) (.pT rfl rfl) ?_
    refine VD.y rfl rfl (.inl rfl) (.mv rfl) ?_
    refine VD.dec (s := 17) rfl (fun hc6 => ?_) (fun hc6 => ?_)
    · -- TT
      refine VD.y rfl rfl (.inr ⟨_, _, rfl, _, rfl, rfl⟩) (.fa rfl tst32 rfl) ?_
      refine VD.y rfl rfl (.inr ⟨_, _, rfl, _, rfl, rfl⟩) (.ld1 102 rfl tk30 rfl (cellsAt_one rfl rfl)) ?_
      refine VD.y rfl rfl (.inr ⟨_, _, rfl, _, rfl, rfl⟩) (.lenS rfl tsl30) ?_
      refine VD.y rfl rfl (.inr ⟨_, _, rfl, _, rfl, rfl⟩) (.fa rfl tst32 rfl) ?_
      refine VD.y rfl rfl (.inr ⟨_, _, rfl, _, rfl, rfl⟩) (.ld1 104 rfl tk30 rfl (cellsAt_one rfl rfl)) ?_
      refine VD.y rfl rfl (.inr ⟨_, _, rfl, _, rfl, rfl⟩) (.lenS rfl tsl30) ?_
      refine VD.y rfl rfl (.inr ⟨_, _, rfl, _, rfl, rfl⟩) (.eql rfl rfl) ?_
      refine VD.y rfl rfl (.inl rfl) (.pT rfl rfl) ?_
      refine VD.y rfl rfl (.inl rfl) (.mv rfl) ?_
      refine VD.dec (s := 26) rfl (fun hc7 => ?_) (fun hc7 => ?_)
      · -- TTT
        refine VD.y rfl rfl (.inr ⟨_, _, rfl, _, rfl, rfl⟩) (.fa rfl tst32 rfl) ?_
        refine VD.y rfl rfl (.inr ⟨_, _, rfl, _, rfl, rfl⟩) (.ld1 102 rfl tk30 rfl (cellsAt_one rfl rfl)) ?_
        refine VD.y rfl rfl (.inr ⟨_, _, rfl, _, rfl, rfl⟩) (.fa rfl tst32 rfl) ?_
        refine VD.y rfl rfl (.inr ⟨_, _, rfl, _, rfl, rfl⟩) (.ld1 104 rfl tk30 rfl (cellsAt_one rfl rfl)) ?_
        refine VD.y rfl rfl (.inr ⟨_, _, rfl, _, rfl, rfl⟩) (.lenS rfl tsl30) ?_
        refine VD.y rfl rfl (.inr ⟨_, _, rfl, _, rfl, rfl⟩) (.add (c := ((d1.2.2.length + 3 : Nat) : Int)) rfl rfl (by omega) ⟨bd, bd⟩) ?_
        have hs8 := p0_f2.pre (j := (d1.2.2.length + 3)) bd
        refine VD.y rfl rfl (.inr ⟨_, _, rfl, _, rfl, rfl⟩) (.slHI (d1.2.2.length + 3) rfl rfl tsl30 rfl bd) ?_
        refine VD.y rfl rfl (.inr ⟨_, _, rfl, _, rfl, rfl⟩) (.fa rfl tst32 rfl) ?_
        refine VD.y rfl rfl (.inr ⟨_, _, rfl, _, rfl, rfl⟩) (.ld1 104 rfl tk30 rfl (cellsAt_one rfl rfl)) ?_
        refine VD.nil rfl ?_ rfl
        refine VO.gcallN 109 rfl ⟨_, rfl, rfl⟩ fnOk99 rfl (fun W hW => KeptOps_ok W (Rd.mono hs8 (hW.at (i := 0) rfl)) (Rd.mono p1_2 (hW.at (i := 0) rfl)) bd) (fun v9 m9 hv9 => ?_)
        subst hv9
        refine VO.y rfl (.pT rfl rfl) ?_
        refine VO.as ?_
        refine VO.k5 0 1 2 3 4 ?_
        refine outN ?_
        refine VC.ret ?_
        refine ⟨_, _, res_run (rs := [.tmp 4]) rfl (.tmp rfl .nil), fun W_ hI => out_of (l := []) hI [] rfl rfl (mle_refl _) (fun hS_ => ?_)⟩
        dsimp only [packV]
        all_goals (first | rfl | (exact congrArg Value.bool (decide_eq_true (by rw [ec, ed]; exact opsLent (by omega)))))
      · -- TTF
        exact absurd (by rw [el]) hc7
    · -- TF
      exact absurd eb hc6
  · -- F
    exact absurd ea hc5
theorem fin0_LentCommits_ok {P : Prop} (h : P := by first | omega | (simp only [List.length_append, List.length_nil, List.length_cons, List.length_take, List.length_drop] at *; omega) | exact e1 _ (List.mem_of_getElem? ‹d0[_]? = some _›)) : P := h
theorem LentCommits_ok (W : World) {v0 : Value} {d0 : List DCommit} (h0 : Rd (.sl TCommit) (wm W) [v0] d0) (e0 : d0.length ≤ 3518437200000) (e1 : ∀ c ∈ d0, c.2.2.length ≤ 3518437208800) : CallR Try.prog 14 [v0] W (mnil) (fun v m' => ∃ (s0 : Value), v = s0 ∧ Ow (.sl TLCommit) m' [s0] (d0.map lentC ++ spareC)) := by
  obtain ⟨A0, c0, rfl, l0, k0⟩ := h0.slice
  simp only [maxLen] at k0
  refine CallR.ofA (n := 29) Try.func14 rfl rfl rfl ?_
  refine VC.rs ?_
  refine VO.as ?_
  refine VO.k2 0 2 ?_
  refine VC.rs ?_
  refine VO.as ?_
  refine VO.k3 0 2 3 ?_
  refine VC.seq ?_
  refine VC.rs ?_
  refine VO.as ?_
  refine VO.kp [0] [(0, wm W)] ?_
  refine VO.k4 0 2 3 4 ?_
  refine VC.block ?_
  refine VC.inv ((101, mnil) :: _) (fun _ h => h.nilc 101) ?_
  refine VC.loop (G := Nat × (List DLCommit) × (Option Addr) × Nat × Mem) (fun g => [(3, Value.slice (g.2.2.1) ((g.2.1).length) ((g.2.2.2.1))), (4, Value.int .i64 ((((g.1) : Nat) : Int))), (0, Value.slice A0 (d0.length) (c0)), (2, Value.slice none (0) (0))]) (fun g => [(101, (g.2.2.2.2)), (0, wm W)]) (fun g => ((g.1) ≤ d0.length) ∧ ((g.2.1) = (d0.take (g.1)).map lentC) ∧ (Ow (.sl TLCommit) (g.2.2.2.2) [.slice (g.2.2.1) (g.2.1).length (g.2.2.2.1)] (g.2.1))) (fun g => d0.length - (g.1)) (0, [], none, 0, mnil) (⟨by omega, by rfl, (Ow.nil TLCommit mnil)⟩) ⟨⟨rfl, rfl, rfl, rfl, trivial⟩, fun _ h => h.sub [101, 0]⟩ ?_
  rintro ⟨k, out, out_A, out_c, out_m⟩ ⟨hk, ho, h_out⟩
  replace hk : k ≤ d0.length := hk
  replace ho : out = (d0.take k).map lentC := ho
  replace h_out : Ow (.sl TLCommit) out_m [.slice out_A out.length out_c] out := h_out
  show VC _ _ _ _ _ [(3, Value.slice out_A (out.length) (out_c)), (4, Value.int .i64 (((k : Nat) : Int))), (0, Value.slice A0 (d0.length) (c0)), (2, Value.slice none (0) (0))] [(101, out_m), (0, wm W)]
  have l_out : out.length ≤ out_c := by obtain ⟨_, _, he, hl, _⟩ := h_out.slice; simp only [Value.slice.injEq] at he; omega
  have k_out : out_c ≤ 9223372036854775807 := by obtain ⟨_, _, he, _, hl⟩ := h_out.slice; simp only [Value.slice.injEq, maxLen] at he hl; omega
  have hlo : out.length ≤ k := by rw [ho]; simp; omega
  refine VC.seq ?_
  refine VC.rs ?_
  refine VO.mv ?_
  refine VO.mv ?_
  refine VO.y rfl (.lenS rfl tsl22) ?_
  refine VO.y rfl (.lss rfl rfl) ?_
  refine VO.k5 0 2 3 4 9 ?_
  refine VC.cond rfl (fun hc2 => ?_) (fun hc2 => ?_)
  · -- T
    refine VC.skip ?_
    refine outN ?_
    refine VC.seq ?_
    refine VC.block ?_
    refine VC.reg ?_
    refine VO.mv ?_
    refine VO.mv ?_
    refine VO.mv ?_
    obtain ⟨x3, hx3⟩ : ∃ z_, (d0)[k]? = some z_ := ⟨_, List.getElem?_eq_getElem (by exact fin0_LentCommits_ok)⟩
    obtain ⟨gg3, oo3, ec3, ea3, hce3, hre3⟩ := h0.elem hx3
    cases ea3
    obtain ⟨q3_A2, q3_c2, rfl, q3_0, q3_1, q3_2⟩ := open_Commit (x0 := x3.1) (x1 := x3.2.1) (x2 := x3.2.2) hre3
    simp only [inK] at q3_0
    simp only [inK] at q3_1
    have q3_r2 := Rd.room q3_2
    refine VO.y rfl (.ixI k rfl rfl tsl22 rfl (by exact fin0_LentCommits_ok)) ?_
    refine VO.y rfl (.ldA 0 rfl tk32 rfl hce3) ?_
    refine VO.callN 104 rfl fnOk52 rfl (fun W hW => LentCommit_ok W (Rd.mono hre3 (hW.at (i := 0) rfl)) (by exact fin0_LentCommits_ok)) (fun v4 m4 hv4 => ?_)
    obtain ⟨s4_0, rfl, f4_0⟩ := hv4
    obtain ⟨q4_0_A2, q4_0_c2, q4_0_n2, rfl, q4_0_S, q4_0_0, q4_0_1, q4_0_2⟩ := openO_LCommit (x0 := x3.1) (x1 := x3.2.1) (x2 := (x3.2.2, spareO)) f4_0
    simp only [inK] at q4_0_0
    simp only [inK] at q4_0_1
    have q4_0_f2 := (Rd.full (q4_0_2.rd (mle_refl _))).2
    have q4_0_s2 := Rd.pre2 q4_0_f2
    have q4_0_r2 := Rd.room q4_0_f2
    dsimp only at q4_0_f2 q4_0_s2 q4_0_r2
    have q4_0_o2 := (Ow.full q4_0_2).2
    have q4_0_p2 := Ow.pre2 q4_0_o2
    dsimp only at q4_0_o2 q4_0_p2
    refine VO.inv _ (fun _ h => h.parts (i := 104) rfl q4_0_S [105]) ?_
    refine VO.bsl (cs := [Value.int .i64 (x3.1), Value.int .i64 (x3.2.1), Value.slice q4_0_A2 (x3.2.2.length) (q4_0_c2)]) 107 rfl rfl tsl22 tz32 rfl rfl (fun g6 => ?_)
    refine VO.appO (e := TLCommit) 101 105 107 rfl rfl rfl tsl22 tz32 rfl rfl rfl rfl h_out (mkO_LCommit x3.1 x3.2.1 (x3.2.2, spareO) (Seps.one (mle_refl _)) (by simp only [inK]; (exact fin0_LentCommits_ok)) (by simp only [inK]; (exact fin0_LentCommits_ok)) q4_0_2) Try.underlying22 (cellsAt_one rfl rfl) (by simp only [maxLen]; (exact fin0_LentCommits_ok)) (by exact fin0_LentCommits_ok) (by decide) (fun v8 m8 ho8 => ?_)
    obtain ⟨A8, c8, rfl, l8, k8⟩ := ho8.slice
    simp only [maxLen] at k8
    refine VO.as ?_
    refine VO.k5 0 2 3 4 9 ?_
    refine outBN ?_
    refine outN ?_
    refine VC.reg ?_
    refine VO.mv ?_
    refine VO.y rfl (.add (c := ((k + 1 : Nat) : Int)) rfl rfl (by omega) ⟨by exact fin0_LentCommits_ok, by exact fin0_LentCommits_ok⟩) ?_
    refine VO.as ?_
    refine VO.kp [101, 0] [(101, m8), (0, wm W)] ?_
    refine VO.k5 0 2 3 4 9 ?_
    exact outN ⟨⟨k + 1, out ++ [(x3.1, x3.2.1, (x3.2.2, spareO))], A8, c8, m8⟩, ⟨by omega, by exact lent_next ho ‹d0[k]? = some _›, ho8⟩, by exact fin0_LentCommits_ok, ⟨⟨rfl, rfl, rfl, rfl, trivial⟩, fun _ h => Inv.sub h [101, 0]⟩⟩
  · -- F
    refine VC.exit ?_
    refine outE ?_
    refine outE ?_
    refine outBB ?_
    refine outN ?_
    refine VC.seq ?_
    refine VC.rs ?_
    refine VO.as ?_
    refine VO.k6 0 2 3 4 5 9 ?_
    refine VC.block ?_
    refine VC.loop (G := Nat × (List DLCommit) × (Option Addr) × Nat × Mem) (fun g => [(3, Value.slice (g.2.2.1) ((g.2.1).length) ((g.2.2.2.1))), (5, Value.int .i64 ((((g.1) : Nat) : Int))), (0, Value.slice A0 (d0.length) (c0)), (2, Value.slice none (0) (0)), (4, Value.int .i64 (((k : Nat) : Int))), (9, Value.bool (decide (((k : Nat) : Int) < ((d0.length : Nat) : Int))))]) (fun g => [(101, (g.2.2.2.2)), (0, wm W)]) (fun g => ((g.1) ≤ 3) ∧ ((g.2.1) = d0.map lentC ++ spareC.take (g.1)) ∧ (Ow (.sl TLCommit) (g.2.2.2.2) [.slice (g.2.2.1) (g.2.1).length (g.2.2.2.1)] (g.2.1))) (fun g => 3 - (g.1)) (0, out, out_A, out_c, out_m) (⟨by omega, by (rw [ho, List.take_of_length_le (by omega)]; simp), h_out⟩) ⟨⟨rfl, rfl, rfl, rfl, rfl, rfl, trivial⟩, fun _ h => h.sub [101, 0]⟩ ?_
    rintro ⟨j, out, out_A, out_c, out_m⟩ ⟨hj, ho2, h_out⟩
    replace hj : j ≤ 3 := hj
    replace ho2 : out = d0.map lentC ++ spareC.take j := ho2
    replace h_out : Ow (.sl TLCommit) out_m [.slice out_A out.length out_c] out := h_out
    show VC _ _ _ _ _ [(3, Value.slice out_A (out.length) (out_c)), (5, Value.int .i64 (((j : Nat) : Int))), (0, Value.slice A0 (d0.length) (c0)), (2, Value.slice none (0) (0)), (4, Value.int .i64 (((k : Nat) : Int))), (9, Value.bool (decide (((k : Nat) : Int) < ((d0.length : Nat) : Int))))] [(101, out_m), (0, wm W)]
    have l_out : out.length ≤ out_c := by obtain ⟨_, _, he, hl, _⟩ := h_out.slice; simp only [Value.slice.injEq] at he; omega
    have k_out : out_c ≤ 9223372036854775807 := by obtain ⟨_, _, he, _, hl⟩ := h_out.slice; simp only [Value.slice.injEq, maxLen] at he hl; omega
    have hlo : out.length ≤ d0.length + 3 := by rw [ho2]; simp [spareC]; omega
    refine VC.seq ?_
    refine VC.rs ?_
    refine VO.mv ?_
    refine VO.y rfl (.lss rfl rfl) ?_
    refine VO.kp [101, 0] [(101, out_m), (0, wm W)] ?_
    refine VO.k7 0 2 3 4 5 9 21 ?_
    refine VC.cond rfl (fun hc9 => ?_) (fun hc9 => ?_)
    · -- FT
      refine VC.skip ?_
      refine outN ?_
      refine VC.seq ?_
      refine VC.block ?_
      refine VC.reg ?_
      refine VO.mv ?_
      refine VO.y rfl (.bst (cs := [Value.int .i64 ((-7)), Value.int .i64 (0), Value.slice none (0) (0)]) rfl tst32 tz32 rfl) ?_
      refine VO.bsl (cs := [Value.int .i64 ((-7)), Value.int .i64 (0), Value.slice none (0) (0)]) 111 rfl rfl tsl22 tz32 rfl rfl (fun g10 => ?_)
      refine VO.inv ((113, mnil) :: _) (fun _ h => h.nilc 113) ?_
      refine VO.appO (e := TLCommit) 101 113 111 rfl rfl rfl tsl22 tz32 rfl rfl rfl rfl h_out (mkO_LCommit (-7) 0 ([], []) (Seps.nilAt 0 (Seps.nil _)) (by simp only [inK]; (exact fin0_LentCommits_ok)) (by simp only [inK]; (exact fin0_LentCommits_ok)) (Ow.nilSpl _ _)) Try.underlying22 (cellsAt_one rfl rfl) (by simp only [maxLen]; (exact fin0_LentCommits_ok)) (by exact fin0_LentCommits_ok) (by decide) (fun v12 m12 ho12 => ?_)
      obtain ⟨A12, c12, rfl, l12, k12⟩ := ho12.slice
      simp only [maxLen] at k12
      refine VO.as ?_
      refine VO.k7 0 2 3 4 5 9 21 ?_
      refine outBN ?_
      refine outN ?_
      refine VC.reg ?_
      refine VO.mv ?_
      refine VO.y rfl (.add (c := ((j + 1 : Nat) : Int)) rfl rfl (by omega) ⟨by exact fin0_LentCommits_ok, by exact fin0_LentCommits_ok⟩) ?_
      refine VO.as ?_
      refine VO.k7 0 2 3 4 5 9 21 ?_
      exact outN ⟨⟨j + 1, out ++ [(((-7), 0, ([], [])) : DLCommit)], A12, c12, m12⟩, ⟨by omega, by exact spareC_next ho2 (by omega), ho12⟩, by exact fin0_LentCommits_ok, ⟨⟨rfl, rfl, rfl, rfl, rfl, rfl, trivial⟩, fun _ h => Inv.sub h [101, 0]⟩⟩
    · -- FF
      refine VC.exit ?_
      refine outE ?_
      refine outE ?_
      refine outBB ?_
      refine outN ?_
      refine VC.rs ?_
      refine VO.mv ?_
      refine VO.as ?_
      refine VO.k7 0 2 3 4 5 9 21 ?_
      refine VC.ret ?_
      refine ⟨_, _, res_run (rs := [.tmp 2]) rfl (.tmp rfl .nil), fun W_ hI => out_of (l := [out_m]) hI [101] rfl rfl (mle_refl _) (fun hS_ => ?_)⟩
      dsimp only [packV]
      have he0 : (d0.map lentC ++ spareC : Ty.Den (.sl TLCommit)) = out := by first | rfl | (have : j = 3 := (by omega); subst this; exact ho2.symm)
      refine ⟨Value.slice out_A (out.length) (out_c), ?_, ?_⟩
      rotate_left
      · rw [he0]; exact (Ow.up h_out (hS_.1 _ (.head _)))
      all_goals (first | rfl | (simp [*]; done))
theorem fin0_KeptCommits_ok {P : Prop} (h : P := by first | omega | (simp only [List.length_append, List.length_nil, List.length_cons, List.length_take, List.length_drop] at *; omega) | exact lent_at e0 ‹d0[_]? = some _› ‹d1[_]? = some _› | exact e2 _ (List.mem_of_getElem? ‹d1[_]? = some _›)) : P := h
theorem KeptCommits_ok (W : World) {v0 : Value} {d0 : List DLCommit} (h0 : Rd (.sl TLCommit) (wm W) [v0] d0) {v1 : Value} {d1 : List DCommit} (h1 : Rd (.sl TCommit) (wm W) [v1] d1) (e0 : d0 = d1.map lentC ++ spareC) (e1 : d1.length ≤ 3518437200000) (e2 : ∀ c ∈ d1, c.2.2.length ≤ 3518437208800) : CallR Try.prog 24 [v0, v1] W (mnil) (fun v m' => v = .bool true) := by
  have el := congrArg List.length e0; rw [lent_len] at el
  obtain ⟨A0, c0, rfl, l0, k0⟩ := h0.slice
  simp only [maxLen] at k0
  obtain ⟨A1, c1, rfl, l1, k1⟩ := h1.slice
  simp only [maxLen] at k1
  refine CallR.ofA (n := 44) Try.func24 rfl rfl rfl ?_
  refine VC.rs ?_
  refine VO.as ?_
  refine VO.k3 0 1 4 ?_
  refine VC.seq ?_
  refine VC.rs ?_
  refine VO.mv ?_
  refine VO.y rfl (.lenS rfl tsl22) ?_
  refine VO.mv ?_
  refine VO.y rfl (.lenS rfl tsl22) ?_
  refine VO.y rfl (.add (c := ((d1.length + 3 : Nat) : Int)) rfl rfl (by omega) ⟨by exact fin0_KeptCommits_ok, by exact fin0_KeptCommits_ok⟩) ?_
  refine VO.y rfl (.neq rfl rfl) ?_
  refine VO.k4 0 1 4 12 ?_
  refine VC.cond rfl (fun hc1 => ?_) (fun hc1 => ?_)
  · -- T
    omega
  · -- F
    refine VC.skip ?_
    refine outN ?_
    refine VC.seq ?_
    refine VC.rs ?_
    refine VO.as ?_
    refine VO.kp [0] [(0, wm W)] ?_
    refine VO.k5 0 1 4 5 12 ?_
    refine VC.block ?_
    refine VC.loop (G := Nat) (fun k => [(5, Value.int .i64 (((k : Nat) : Int))), (0, Value.slice A0 (d0.length) (c0)), (1, Value.slice A1 (d1.length) (c1)), (12, Value.bool (decide (¬ ((d0.length : Nat) : Int) = ((d1.length + 3 : Nat) : Int))))]) (fun k => [(0, wm W)]) (fun k => (k ≤ d1.length)) (fun k => d1.length - k) 0 (by omega) ⟨⟨rfl, rfl, rfl, rfl, trivial⟩, fun _ h => h.sub [0]⟩ ?_
    rintro k hk
    refine VC.seq ?_
    refine VC.rs ?_
    refine VO.mv ?_
    refine VO.mv ?_
    refine VO.y rfl (.lenS rfl tsl22) ?_
    refine VO.y rfl (.lss rfl rfl) ?_
    refine VO.k5 0 1 5 12 16 ?_
    refine VC.cond rfl (fun hc2 => ?_) (fun hc2 => ?_)
    · -- FT
      refine VC.skip ?_
      refine outN ?_
      refine VC.seq ?_
      refine VC.block ?_
      refine VC.seq ?_
      refine VC.regD _ 8 [(0, true), (1, true), (2, true), (3, true), (4, true), (5, true), (6, true), (7, true)] follows (by kernel_rfl) (fun _ h => h.sub [0]) ?_
      refine VD.y rfl rfl (.inl rfl) (.mv rfl) ?_
      refine VD.y rfl rfl (.inl rfl) (.mv rfl) ?_
      obtain ⟨x3, hx3⟩ : ∃ z_, (d0)[k]? = some z_ := ⟨_, List.getElem?_eq_getElem (by exact fin0_KeptCommits_ok)⟩
      obtain ⟨gg3, oo3, ec3, ea3, hce3, hre3⟩ := h0.elem hx3
      cases ea3
      obtain ⟨q3_A2, q3_c2, rfl, q3_0, q3_1, q3_2⟩ := open_LCommit (x0 := x3.1) (x1 := x3.2.1) (x2 := x3.2.2) hre3
      simp only [inK] at q3_0
      simp only [inK] at q3_1
      have q3_f2 := (Rd.full q3_2).2
      have q3_s2 := Rd.pre2 q3_f2
      have q3_r2 := Rd.room q3_f2
      refine VD.y rfl rfl (.inl rfl) (.ixI k rfl rfl tsl22 rfl (by exact fin0_KeptCommits_ok)) ?_
      refine VD.y rfl rfl (.inl rfl) (.ldA 0 rfl tk32 rfl hce3) ?_
      refine VD.y rfl rfl (.inl rfl) (.mv rfl) ?_
      refine VD.y rfl rfl (.inl rfl) (.mv rfl) ?_
      obtain ⟨x4, hx4⟩ : ∃ z_, (d1)[k]? = some z_ := ⟨_, List.getElem?_eq_getElem (by exact fin0_KeptCommits_ok)⟩
      obtain ⟨gg4, oo4, ec4, ea4, hce4, hre4⟩ := h1.elem hx4
      cases ea4
      obtain ⟨q4_A2, q4_c2, rfl, q4_0, q4_1, q4_2⟩ := open_Commit (x0 := x4.1) (x1 := x4.2.1) (x2 := x4.2.2) hre4
      simp only [inK] at q4_0
      simp only [inK] at q4_1
      have q4_r2 := Rd.room q4_2
      refine VD.y rfl rfl (.inl rfl) (.ixI k rfl rfl tsl22 rfl (by exact fin0_KeptCommits_ok)) ?_
      refine VD.y rfl rfl (.inl rfl) (.ldA 0 rfl tk32 rfl hce4) ?_
      refine VD.nil rfl ?_ rfl
      refine VO.callN 105 rfl fnOk64 rfl (fun W hW => KeptCommit_ok W (Rd.mono hre3 (hW.at (i := 0) rfl)) (Rd.mono hre4 (hW.at (i := 0) rfl)) (by exact lent_at e0 ‹d0[k]? = some _› ‹d1[k]? = some _›) (by exact fin0_KeptCommits_ok)) (fun v5 m5 hv5 => ?_)
      subst hv5
      refine VO.y rfl (.not rfl) ?_
      refine VO.k6 0 1 5 12 16 28 ?_
      refine outN ?_
      refine VC.condF rfl ?_
      refine VC.skip ?_
      refine outBN ?_
      refine outN ?_
      refine VC.reg ?_
      refine VO.mv ?_
      refine VO.y rfl (.add (c := ((k + 1 : Nat) : Int)) rfl rfl (by omega) ⟨by exact fin0_KeptCommits_ok, by exact fin0_KeptCommits_ok⟩) ?_
      refine VO.as ?_
      refine VO.kp [0] [(0, wm W)] ?_
      refine VO.k6 0 1 5 12 16 28 ?_
      exact outN ⟨k + 1, by omega, by exact fin0_KeptCommits_ok, ⟨⟨rfl, rfl, rfl, rfl, trivial⟩, fun _ h => Inv.sub h [0]⟩⟩
    · -- FF
      refine VC.exit ?_
      refine outE ?_
      refine outE ?_
      refine outBB ?_
      refine outN ?_
      refine VC.seq ?_
      refine VC.rs ?_
      refine VO.mv ?_
      refine VO.y rfl (.lenS rfl tsl22) ?_
      refine VO.as ?_
      refine VO.k6 0 1 5 6 12 16 ?_
      refine VC.block ?_
      refine VC.loop (G := Nat) (fun j => [(6, Value.int .i64 (((j : Nat) : Int))), (0, Value.slice A0 (d0.length) (c0)), (1, Value.slice A1 (d1.length) (c1)), (5, Value.int .i64 (((k : Nat) : Int))), (12, Value.bool (decide (¬ ((d0.length : Nat) : Int) = ((d1.length + 3 : Nat) : Int)))), (16, Value.bool (decide (((k : Nat) : Int) < ((d1.length : Nat) : Int))))]) (fun j => [(0, wm W)]) (fun j => (d1.length ≤ j ∧ j ≤ d0.length)) (fun j => d0.length - j) d1.length (by omega) ⟨⟨rfl, rfl, rfl, rfl, rfl, rfl, trivial⟩, fun _ h => h.sub [0]⟩ ?_
      rintro j hj
      refine VC.seq ?_
      refine VC.rs ?_
      refine VO.mv ?_
      refine VO.mv ?_
      refine VO.y rfl (.lenS rfl tsl22) ?_
      refine VO.y rfl (.lss rfl rfl) ?_
      refine VO.kp [0] [(0, wm W)] ?_
      refine VO.k7 0 1 5 6 12 16 34 ?_
      refine VC.cond rfl (fun hc6 => ?_) (fun hc6 => ?_)
      · -- FFT
        refine VC.skip ?_
        refine outN ?_
        refine VC.seq ?_
        refine VC.block ?_
        refine VC.rs ?_
        refine VO.mv ?_
        refine VO.mv ?_
        obtain ⟨x7, hx7⟩ : ∃ z_, (d0)[j]? = some z_ := ⟨_, List.getElem?_eq_getElem (by exact fin0_KeptCommits_ok)⟩
        obtain ⟨gg7, oo7, ec7, ea7, hce7, hre7⟩ := h0.elem hx7
        cases ea7
        obtain ⟨q7_A2, q7_c2, rfl, q7_0, q7_1, q7_2⟩ := open_LCommit (x0 := x7.1) (x1 := x7.2.1) (x2 := x7.2.2) hre7
        simp only [inK] at q7_0
        simp only [inK] at q7_1
        have q7_f2 := (Rd.full q7_2).2
        have q7_s2 := Rd.pre2 q7_f2
        have q7_r2 := Rd.room q7_f2
        refine VO.y rfl (.ixI j rfl rfl tsl22 rfl (by exact fin0_KeptCommits_ok)) ?_
        refine VO.y rfl (.ldA 0 rfl tk32 rfl hce7) ?_
        refine VO.y rfl (.bst (cs := [Value.int .i64 ((-7)), Value.int .i64 (0), Value.slice none (0) (0)]) rfl tst32 tz32 rfl) ?_
        refine VO.callN 108 rfl fnOk65 rfl (fun W hW => SameCommit_ok W (mk_Commit (m := wm W) x7.1 x7.2.1 x7.2.2.1 (by simp only [inK]; (exact fin0_KeptCommits_ok)) (by simp only [inK]; (exact fin0_KeptCommits_ok)) (Rd.mono q7_s2 (hW.at (i := 0) rfl))) (mk_Commit (m := wm W) (-7) 0 [] (by simp only [inK]; (exact fin0_KeptCommits_ok)) (by simp only [inK]; (exact fin0_KeptCommits_ok)) (Rd.nil _ _ none 0 (Nat.zero_le _)))) (fun v8 m8 hv8 => ?_)
        try dsimp only at hv8
        subst hv8
        refine VO.y rfl (.notD rfl) ?_
        refine VO.k8 0 1 5 6 12 16 34 43 ?_
        refine VC.cond rfl (fun hc9 => ?_) (fun hc9 => ?_)
        · -- FFTT
          have h_ := spare_at e0 hj.1 ‹d0[j]? = some _›; exact absurd (by rw [h_]) hc9
        · -- FFTF
          refine VC.skip ?_
          refine outBN ?_
          refine outN ?_
          refine VC.reg ?_
          refine VO.mv ?_
          refine VO.y rfl (.add (c := ((j + 1 : Nat) : Int)) rfl rfl (by omega) ⟨by exact fin0_KeptCommits_ok, by exact fin0_KeptCommits_ok⟩) ?_
          refine VO.as ?_
          refine VO.k8 0 1 5 6 12 16 34 43 ?_
          exact outN ⟨j + 1, by omega, by exact fin0_KeptCommits_ok, ⟨⟨rfl, rfl, rfl, rfl, rfl, rfl, trivial⟩, fun _ h => Inv.sub h [0]⟩⟩
      · -- FFF
        refine VC.exit ?_
        refine outE ?_
        refine outE ?_
        refine outBB ?_
        refine outN ?_
        refine VC.rs ?_
        refine VO.as ?_
        refine VO.k8 0 1 4 5 6 12 16 34 ?_
        refine VC.ret ?_
        refine ⟨_, _, res_run (rs := [.tmp 4]) rfl (.tmp rfl .nil), fun W_ hI => out_of (l := []) hI [] rfl rfl (mle_refl _) (fun hS_ => ?_)⟩
        dsimp only [packV]
        all_goals (first | rfl | (simp [*]; done))
theorem fin0_c4Follows_ok {P : Prop} (h : P := by first | omega | (simp only [List.length_append, List.length_nil, List.length_cons, List.length_take, List.length_drop] at *; omega) | (have := cCheck_ok (by first | assumption | exact Decidable.not_not.1 (by assumption) : cCheck _ = 0); omega)) : P := h
theorem c4Follows_ok (W : World) (d0 : Int) (h0 : inK .i64 d0) (d1 : Int) (h1 : inK .i64 d1) {v2 : Value} {d2 : List DCommit} (h2 : Rd (.sl TCommit) (wm W) [v2] d2) : CallR Try.prog 62 [.int .i64 d0, .int .i64 d1, v2] W (mnil) (fun v m' => ∃ (s0 : List Value), v = .agg s0.toArray ∧ Ow TFault m' s0 (cFollows d0 d1 d2)) := by
  have h0' := h0; simp only [inK] at h0'
  have h1' := h1; simp only [inK] at h1'
  obtain ⟨A2, c2, rfl, l2, k2⟩ := h2.slice
  simp only [maxLen] at k2
  refine CallR.ofA (n := 55) Try.func62 rfl rfl rfl ?_
  refine VC.rs ?_
  refine VO.alloc 102 rfl tz75 (fun g1 => ?_)
  refine VO.k4 0 1 2 6 ?_
  refine VC.seq ?_
  refine VC.rs ?_
  refine VO.as ?_
  refine VO.k5 0 1 2 6 7 ?_
  refine VC.block ?_
  refine VC.loop (G := Nat × Int × Int) (fun g => [(0, Value.int .i64 ((g.2.1))), (1, Value.int .i64 ((g.2.2))), (7, Value.int .i64 ((((g.1) : Nat) : Int))), (2, Value.slice A2 (d2.length) (c2)), (6, Value.pointer (some ⟨g1, 0, none⟩))]) (fun g => [(102, mone g1 (.cells [Value.int .i64 (0), Value.int .i64 (0)].toArray 75 (0, 0))), (0, wm W)]) (fun g => ((g.1) ≤ d2.length) ∧ (cFollows d0 d1 d2 = cFollowsAt (g.2.1) (g.2.2) (g.1) (d2.drop (g.1)))) (fun g => d2.length - (g.1)) (0, d0, d1) (⟨by omega, by rfl⟩) ⟨⟨rfl, rfl, rfl, rfl, rfl, trivial⟩, fun _ h => h.sub [102, 0]⟩ ?_
  rintro ⟨k, e, nn⟩ ⟨hk, hf⟩
  replace hk : k ≤ d2.length := hk
  replace hf : cFollows d0 d1 d2 = cFollowsAt e nn k (d2.drop k) := hf
  show VC _ _ _ _ _ [(0, Value.int .i64 (e)), (1, Value.int .i64 (nn)), (7, Value.int .i64 (((k : Nat) : Int))), (2, Value.slice A2 (d2.length) (c2)), (6, Value.pointer (some ⟨g1, 0, none⟩))] [(102, mone g1 (.cells [Value.int .i64 (0), Value.int .i64 (0)].toArray 75 (0, 0))), (0, wm W)]
  refine VC.seq ?_
  refine VC.rs ?_
  refine VO.mv ?_
  refine VO.mv ?_
  refine VO.y rfl (.lenS rfl tsl22) ?_
  refine VO.y rfl (.lss rfl rfl) ?_
  refine VO.kp [102, 0] [(102, mone g1 (.cells [Value.int .i64 (0), Value.int .i64 (0)].toArray 75 (0, 0))), (0, wm W)] ?_
  refine VO.k6 0 1 2 6 7 12 ?_
  refine VC.cond rfl (fun hc3 => ?_) (fun hc3 => ?_)
  · -- T
    refine VC.skip ?_
    refine outN ?_
    refine VC.seq ?_
    refine VC.block ?_
    refine VC.rs ?_
    refine VO.mv ?_
    refine VO.mv ?_
    obtain ⟨x4, hx4⟩ : ∃ z_, (d2)[k]? = some z_ := ⟨_, List.getElem?_eq_getElem (by exact fin0_c4Follows_ok)⟩
    obtain ⟨gg4, oo4, ec4, ea4, hce4, hre4⟩ := h2.elem hx4
    cases ea4
    obtain ⟨q4_A2, q4_c2, rfl, q4_0, q4_1, q4_2⟩ := open_Commit (x0 := x4.1) (x1 := x4.2.1) (x2 := x4.2.2) hre4
    simp only [inK] at q4_0
    simp only [inK] at q4_1
    have q4_r2 := Rd.room q4_2
    refine VO.y rfl (.ixI k rfl rfl tsl22 rfl (by exact fin0_c4Follows_ok)) ?_
    refine VO.y rfl (.ldA 0 rfl tk32 rfl hce4) ?_
    refine VO.callN 105 rfl fnOk98 rfl (fun W hW => c4Check_ok W (Rd.mono hre4 (hW.at (i := 0) rfl))) (fun v5 m5 hv5 => ?_)
    subst hv5
    have hfa6 := cCheck_range x4
    refine VO.as ?_
    refine VO.k7 0 1 2 6 7 8 12 ?_
    refine VC.seq ?_
    refine VC.rs ?_
    refine VO.mv ?_
    refine VO.y rfl (.neq rfl rfl) ?_
    refine VO.k8 0 1 2 6 7 8 12 21 ?_
    refine VC.cond rfl (fun hc7 => ?_) (fun hc7 => ?_)
    · -- TT
      refine VC.rs ?_
      refine VO.mv ?_
      refine VO.mv ?_
      refine VO.y rfl (.bst (cs := [Value.int .i64 (cCheck x4), Value.int .i64 (((k : Nat) : Int))]) rfl tst75 tz75 rfl) ?_
      refine VO.store (k := 2) (c' := [Value.int .i64 (cCheck x4), Value.int .i64 (((k : Nat) : Int))]) 102 rfl rfl (.inl tk75) rfl rfl rfl rfl rfl ?_
      refine VO.kp [102, 0] [(102, mone g1 (.cells [Value.int .i64 (cCheck x4), Value.int .i64 (((k : Nat) : Int))].toArray 75 (0, 0))), (0, wm W)] ?_
      refine VO.k8 0 1 2 6 7 8 12 21 ?_
      refine VC.ret ?_
      refine outR ?_
      refine outBR ?_
      refine outR ?_
      refine outR ?_
      refine outBR ?_
      refine outR ?_
      refine ⟨_, _, res_run (rs := [.cell 6 75]) rfl (.agg 102 rfl tk75 rfl ⟨_, _, _, mone_self _ _, Nat.le_of_ble_eq_true rfl, rfl⟩ .nil), fun W_ hI => out_of (l := []) hI [] rfl rfl (mle_refl _) (fun hS_ => ?_)⟩
      dsimp only [packV]
      have he0 : (cFollows d0 d1 d2 : Ty.Den TFault) = (cCheck x4, ((k : Nat) : Int)) := by first | rfl | (first | (rw [hf, List.drop_of_length_le (by omega)]; rfl) | (rw [hf, follows_bad ‹d2[k]? = some _› (by first | assumption | omega)]) | (rw [hf, follows_order ‹d2[k]? = some _› (by first | assumption | omega) (by omega)]) | (exfalso; omega))
      refine ⟨[Value.int .i64 (cCheck x4), Value.int .i64 (((k : Nat) : Int))], ?_, ?_⟩
      rotate_left
      · rw [he0]; exact (Ow.of (m := mnil) rfl (mk_Fault (m := _) (cCheck x4) ((k : Nat) : Int) (by simp only [inK]; (exact fin0_c4Follows_ok)) (by simp only [inK]; (exact fin0_c4Follows_ok))))
      all_goals (first | rfl | (rfl))
    · -- TF
      refine VC.skip ?_
      refine outN ?_
      refine VC.seq ?_
      refine VC.rs ?_
      refine VO.mv ?_
      refine VO.mv ?_
      refine VO.y rfl (.ixI k rfl rfl tsl22 rfl (by exact fin0_c4Follows_ok)) ?_
      refine VO.y rfl (.fa rfl tst32 rfl) ?_
      refine VO.y rfl (.ld1 0 rfl tk3 rfl (hce4.at1 (j := 1) rfl)) ?_
      refine VO.y rfl (.sub rfl rfl rfl ⟨by exact fin0_c4Follows_ok, by exact fin0_c4Follows_ok⟩) ?_
      refine VO.mv ?_
      refine VO.y rfl (.neq rfl rfl) ?_
      refine VO.mv ?_
      refine VO.dec (t := 33) rfl (fun hc9 => ?_) (fun hc9 => ?_)
      · -- TFT
        refine VO.gN ?_
        refine VO.gN ?_
        refine VO.gN ?_
        refine VO.gN ?_
        refine VO.gN ?_
        refine VO.gN ?_
        refine VO.gN ?_
        refine VO.y rfl (.pT rfl rfl) ?_
        refine VO.kp [102, 0] [(102, mone g1 (.cells [Value.int .i64 (0), Value.int .i64 (0)].toArray 75 (0, 0))), (0, wm W)] ?_
        refine VO.k9 0 1 2 6 7 8 12 21 41 ?_
        refine VC.condT rfl ?_
        refine VC.rs ?_
        refine VO.mv ?_
        refine VO.y rfl (.bst (cs := [Value.int .i64 (15), Value.int .i64 (((k : Nat) : Int))]) rfl tst75 tz75 rfl) ?_
        refine VO.store (k := 2) (c' := [Value.int .i64 (15), Value.int .i64 (((k : Nat) : Int))]) 102 rfl rfl (.inl tk75) rfl rfl rfl rfl rfl ?_
        refine VO.k9 0 1 2 6 7 8 12 21 41 ?_
        refine VC.ret ?_
        refine outR ?_
        refine outBR ?_
        refine outR ?_
        refine outR ?_
        refine outBR ?_
        refine outR ?_
        refine ⟨_, _, res_run (rs := [.cell 6 75]) rfl (.agg 102 rfl tk75 rfl ⟨_, _, _, mone_self _ _, Nat.le_of_ble_eq_true rfl, rfl⟩ .nil), fun W_ hI => out_of (l := []) hI [] rfl rfl (mle_refl _) (fun hS_ => ?_)⟩
        dsimp only [packV]
        have he0 : (cFollows d0 d1 d2 : Ty.Den TFault) = (15, ((k : Nat) : Int)) := by first | rfl | (first | (rw [hf, List.drop_of_length_le (by omega)]; rfl) | (rw [hf, follows_bad ‹d2[k]? = some _› (by first | assumption | omega)]) | (rw [hf, follows_order ‹d2[k]? = some _› (by first | assumption | omega) (by omega)]) | (exfalso; omega))
        refine ⟨[Value.int .i64 (15), Value.int .i64 (((k : Nat) : Int))], ?_, ?_⟩
        rotate_left
        · rw [he0]; exact (Ow.of (m := mnil) rfl (mk_Fault (m := _) 15 ((k : Nat) : Int) (by simp only [inK]; (exact fin0_c4Follows_ok)) (by simp only [inK]; (exact fin0_c4Follows_ok))))
        all_goals (first | rfl | (rfl))
      · -- TFF
        refine VO.gy rfl ⟨_, rfl, rfl⟩ (.mv rfl) ?_
        refine VO.gy rfl ⟨_, rfl, rfl⟩ (.mv rfl) ?_
        refine VO.gy rfl ⟨_, rfl, rfl⟩ (.ixI k rfl rfl tsl22 rfl (by exact fin0_c4Follows_ok)) ?_
        refine VO.gy rfl ⟨_, rfl, rfl⟩ (.fa rfl tst32 rfl) ?_
        refine VO.gy rfl ⟨_, rfl, rfl⟩ (.ld1 0 rfl tk3 rfl (hce4.at1 (j := 0) rfl)) ?_
        refine VO.gy rfl ⟨_, rfl, rfl⟩ (.mv rfl) ?_
        refine VO.gy rfl ⟨_, rfl, rfl⟩ (.lss rfl rfl) ?_
        refine VO.y rfl (.pF rfl rfl) ?_
        refine VO.kp [102, 0] [(102, mone g1 (.cells [Value.int .i64 (0), Value.int .i64 (0)].toArray 75 (0, 0))), (0, wm W)] ?_
        refine VO.k9 0 1 2 6 7 8 12 21 41 ?_
        refine VC.cond rfl (fun hc11 => ?_) (fun hc11 => ?_)
        · -- TFFT
          refine VC.rs ?_
          refine VO.mv ?_
          refine VO.y rfl (.bst (cs := [Value.int .i64 (15), Value.int .i64 (((k : Nat) : Int))]) rfl tst75 tz75 rfl) ?_
          refine VO.store (k := 2) (c' := [Value.int .i64 (15), Value.int .i64 (((k : Nat) : Int))]) 102 rfl rfl (.inl tk75) rfl rfl rfl rfl rfl ?_
          refine VO.k9 0 1 2 6 7 8 12 21 41 ?_
          refine VC.ret ?_
          refine outR ?_
          refine outBR ?_
          refine outR ?_
          refine outR ?_
          refine outBR ?_
          refine outR ?_
          refine ⟨_, _, res_run (rs := [.cell 6 75]) rfl (.agg 102 rfl tk75 rfl ⟨_, _, _, mone_self _ _, Nat.le_of_ble_eq_true rfl, rfl⟩ .nil), fun W_ hI => out_of (l := []) hI [] rfl rfl (mle_refl _) (fun hS_ => ?_)⟩
          dsimp only [packV]
          have he0 : (cFollows d0 d1 d2 : Ty.Den TFault) = (15, ((k : Nat) : Int)) := by first | rfl | (first | (rw [hf, List.drop_of_length_le (by omega)]; rfl) | (rw [hf, follows_bad ‹d2[k]? = some _› (by first | assumption | omega)]) | (rw [hf, follows_order ‹d2[k]? = some _› (by first | assumption | omega) (by omega)]) | (exfalso; omega))
          refine ⟨[Value.int .i64 (15), Value.int .i64 (((k : Nat) : Int))], ?_, ?_⟩
          rotate_left
          · rw [he0]; exact (Ow.of (m := mnil) rfl (mk_Fault (m := _) 15 ((k : Nat) : Int) (by simp only [inK]; (exact fin0_c4Follows_ok)) (by simp only [inK]; (exact fin0_c4Follows_ok))))
          all_goals (first | rfl | (rfl))
        · -- TFFF
          refine VC.skip ?_
          refine outN ?_
          refine VC.regD _ 11 [(0, true), (1, true), (2, true), (3, true), (4, true), (5, true), (6, true), (7, true), (8, true), (9, true), (10, true)] follows (by kernel_rfl) (fun _ h => h.sub [102, 0]) ?_
          refine VD.y rfl rfl (.inl rfl) (.mv rfl) ?_
          refine VD.y rfl rfl (.inl rfl) (.mv rfl) ?_
          refine VD.y rfl rfl (.inl rfl) (.ixI k rfl rfl tsl22 rfl (by exact fin0_c4Follows_ok)) ?_
          refine VD.y rfl rfl (.inl rfl) (.fa rfl tst32 rfl) ?_
          refine VD.y rfl rfl (.inl rfl) (.ld1 0 rfl tk3 rfl (hce4.at1 (j := 0) rfl)) ?_
          refine VD.y rfl rfl (.inl rfl) (.mv rfl) ?_
          refine VD.y rfl rfl (.inl rfl) (.mv rfl) ?_
          refine VD.y rfl rfl (.inl rfl) (.ixI k rfl rfl tsl22 rfl (by exact fin0_c4Follows_ok)) ?_
          refine VD.y rfl rfl (.inl rfl) (.fa rfl tst32 rfl) ?_
          refine VD.y rfl rfl (.inl rfl) (.ld1 0 rfl tk3 rfl (hce4.at1 (j := 1) rfl)) ?_
          refine VD.y rfl rfl (.inl rfl) (.as rfl) ?_
          refine VD.nil rfl ?_ rfl
          refine VO.as ?_
          refine VO.k9 0 1 2 6 7 8 12 21 41 ?_
          refine outBN ?_
          refine outN ?_
          refine VC.reg ?_
          refine VO.mv ?_
          refine VO.y rfl (.add (c := ((k + 1 : Nat) : Int)) rfl rfl (by omega) ⟨by exact fin0_c4Follows_ok, by exact fin0_c4Follows_ok⟩) ?_
          refine VO.as ?_
          refine VO.k9 0 1 2 6 7 8 12 21 41 ?_
          exact outN ⟨⟨k + 1, x4.1, x4.2.1⟩, ⟨by omega, by first | (exfalso; omega) | (rw [hf, follows_step ‹d2[k]? = some _› (by first | assumption | omega) (by omega) (by omega)]; rfl)⟩, by exact fin0_c4Follows_ok, ⟨⟨rfl, rfl, rfl, rfl, rfl, trivial⟩, fun _ h => Inv.sub h [102, 0]⟩⟩
  · -- F
    refine VC.exit ?_
    refine outE ?_
    refine outE ?_
    refine outBB ?_
    refine outN ?_
    refine VC.rs ?_
    refine VO.y rfl (.bst (cs := [Value.int .i64 (0), Value.int .i64 (0)]) rfl tst75 tz75 rfl) ?_
    refine VO.store (k := 2) (c' := [Value.int .i64 (0), Value.int .i64 (0)]) 102 rfl rfl (.inl tk75) rfl rfl rfl rfl rfl ?_
    refine VO.k6 0 1 2 6 7 12 ?_
    refine VC.ret ?_
    refine ⟨_, _, res_run (rs := [.cell 6 75]) rfl (.agg 102 rfl tk75 rfl ⟨_, _, _, mone_self _ _, Nat.le_of_ble_eq_true rfl, rfl⟩ .nil), fun W_ hI => out_of (l := []) hI [] rfl rfl (mle_refl _) (fun hS_ => ?_)⟩
    dsimp only [packV]
    have he0 : (cFollows d0 d1 d2 : Ty.Den TFault) = (0, 0) := by first | rfl | (first | (rw [hf, List.drop_of_length_le (by omega)]; rfl) | (rw [hf, follows_bad ‹d2[k]? = some _› (by first | assumption | omega)]) | (rw [hf, follows_order ‹d2[k]? = some _› (by first | assumption | omega) (by omega)]) | (exfalso; omega))
    refine ⟨[Value.int .i64 (0), Value.int .i64 (0)], ?_, ?_⟩
    rotate_left
    · rw [he0]; exact (Ow.of (m := mnil) rfl (mk_Fault (m := _) 0 0 (by simp only [inK]; (exact fin0_c4Follows_ok)) (by simp only [inK]; (exact fin0_c4Follows_ok))))
    all_goals (first | rfl | (rfl))
end
section
set_option linter.unusedVariables false
def fEnc (r : Bytes) : Bytes := venc r.length ++ r
def fAppend (b r : Bytes) : Bytes × Int := if 131072 < r.length then ([], 3) else (b ++ fEnc r, 0)
def fRead (b : Bytes) : Bytes × Int × Int := if sE b 131072 = 0 ∧ (sX b 131072 : Int) ≤ (b.length : Int) - sN b 131072 then ((b.drop (sN b 131072)).take (sX b 131072), (sN b 131072 : Int) + sX b 131072, 0) else ([], 0, 5)
theorem fAppend_long {b r : Bytes} (h : (131072 : Int) < r.length) : fAppend b r = ([], 3) := if_pos (by omega)
theorem fAppend_good {b r : Bytes} (h : ¬ (131072 : Int) < r.length) : fAppend b r = (b ++ fEnc r, 0) := if_neg (by omega)
theorem fEnc_len {r : Bytes} (h : r.length ≤ 131072) : (fEnc r).length ≤ r.length + 10 := by
  have := venc_len (x := r.length) (by omega)
  simp only [fEnc, List.length_append]; omega
theorem fEnc_pos (r : Bytes) : 1 ≤ (fEnc r).length := by
  have := venc_pos r.length
  simp only [fEnc, List.length_append]; omega
theorem fRead_no1 {b : Bytes} (h : ¬ sE b 131072 = 0) : fRead b = ([], 0, 5) := if_neg fun q => h q.1
theorem fRead_no2 {b : Bytes} (h : (b.length : Int) - sN b 131072 < sX b 131072) : fRead b = ([], 0, 5) := if_neg fun q => by have := q.2; omega
theorem fRead_yes {b : Bytes} (h : ¬ ¬ sE b 131072 = 0) (h2 : ¬ (b.length : Int) - sN b 131072 < sX b 131072) : fRead b = ((b.drop (sN b 131072)).take (sX b 131072), (sN b 131072 : Int) + sX b 131072, 0) := if_pos ⟨Decidable.not_not.1 h, by omega⟩
theorem sN_pos {b : Bytes} {m : Int} (h : sE b m = 0) : 1 ≤ sN b m := by
  unfold sE at h; unfold sN
  cases hv : vsmall b m with
  | none => rw [hv] at h; cases h
  | some p =>
    obtain ⟨x, n⟩ := p
    unfold vsmall at hv
    cases hr : vread b with
    | none => rw [hr] at hv; cases hv
    | some q =>
      obtain ⟨y, k⟩ := q
      rw [hr] at hv
      dsimp only at hv
      split at hv
      · cases hv; exact (vread_bounds hr).2.1
      · cases hv
theorem fRead_bounds (b : Bytes) : 0 ≤ (fRead b).2.1 ∧ (fRead b).2.1 ≤ b.length ∧ (fRead b).1.length ≤ 131072 ∧ ((fRead b).2.2 = 0 ∨ (fRead b).2.2 = 5) ∧ ((fRead b).2.2 = 0 → 1 ≤ (fRead b).2.1) ∧ (fRead b).1.length ≤ b.length := by
  have hb := s_bounds b 131072 (by omega)
  have := hb.2.1 (by omega)
  unfold fRead
  split
  · rename_i h
    have := sN_pos h.1
    refine ⟨by dsimp only; omega, by dsimp only; omega, by simp only [List.length_take]; omega, .inl rfl, fun _ => by dsimp only; omega, by simp only [List.length_take, List.length_drop]; omega⟩
  · exact ⟨Int.le_refl _, by simp, by simp, .inr rfl, fun h => (by cases h), by simp⟩
theorem fRead_there {r : Bytes} (h : r.length ≤ 131072) (s : Bytes) : fRead (fEnc r ++ s) = (r, ((fEnc r).length : Int), 0) := by
  obtain ⟨a1, a2, a3⟩ := s_there (x := r.length) (m := 131072) (by omega) (by omega) (r ++ s)
  unfold fEnc
  rw [List.append_assoc]
  unfold fRead
  rw [a1, a2, a3, if_pos ⟨rfl, by simp only [List.length_append]; omega⟩, List.drop_left, List.take_left]
  simp only [List.length_append, Int.natCast_add]
theorem fRead_back {b : Bytes} (h : (fRead b).2.2 = 0) : b = fEnc (fRead b).1 ++ b.drop (fRead b).2.1.toNat ∧ (fRead b).2.1 = ((fEnc (fRead b).1).length : Int) ∧ (fRead b).1.length ≤ 131072 := by
  have hb := s_bounds b 131072 (by omega)
  have h1 := hb.2.1 (by omega)
  unfold fRead at h ⊢
  split at h
  · rename_i hh
    rw [if_pos hh]
    have e := s_back hh.1
    dsimp only
    have hl : ((b.drop (sN b 131072)).take (sX b 131072)).length = sX b 131072 := by
      simp only [List.length_take, List.length_drop]; omega
    have hv : (venc (sX b 131072)).length = sN b 131072 := by
      have := congrArg List.length e
      simp only [List.length_append, List.length_drop] at this
      omega
    refine ⟨?_, ?_, by rw [hl]; omega⟩
    · unfold fEnc
      rw [hl, List.append_assoc, show ((sN b 131072 : Int) + sX b 131072).toNat = sN b 131072 + sX b 131072 by omega, ← List.drop_drop, List.take_append_drop, ← e]
    · unfold fEnc
      rw [List.length_append, hl, hv]; omega
  · cases h
/-- the document's reader of a frame -/
theorem fRead_ref (b : Bytes) : fRead b = if (rBytes b (rNum b 131072 (0, false)).1 (rNum b 131072 (0, false)).2).2.2 = true then ([], 0, 5) else
    ((rBytes b (rNum b 131072 (0, false)).1 (rNum b 131072 (0, false)).2).1, (rBytes b (rNum b 131072 (0, false)).1 (rNum b 131072 (0, false)).2).2.1, 0) := by
  by_cases h : sE b 131072 = 0
  · have e : rNum b 131072 (0, false) = ((sX b 131072 : Int), ((sN b 131072 : Int), false)) := by
      rw [rNum_some rfl (by simpa using h)]; simp
    rw [e]
    dsimp only
    by_cases h2 : (b.length : Int) - sN b 131072 < sX b 131072
    · rw [rBytes_bad (.inr h2), fRead_no2 h2]; rfl
    · rw [rBytes_good rfl h2, fRead_yes (by simpa using h) h2]
      simp
  · have e : rNum b 131072 (0, false) = (0, (0, true)) := rNum_none rfl (by simpa using h)
    rw [e, rBytes_bad (.inl rfl), fRead_no1 h]; rfl
def fWhole (b : Bytes) : Int × Int × Bool := if sE b 131072 = 0 ∧ (sX b 131072 : Int) ≤ (b.length : Int) - sN b 131072 then ((sN b 131072 : Int), (sN b 131072 : Int) + sX b 131072, true) else (0, 0, false)
theorem whole_no1 {b : Bytes} (h : ¬ sE b 131072 = 0) : fWhole b = (0, 0, false) := if_neg fun q => h q.1
theorem whole_no2 {b : Bytes} (h : (b.length : Int) - sN b 131072 < sX b 131072) : fWhole b = (0, 0, false) := if_neg fun q => by have := q.2; omega
theorem whole_yes {b : Bytes} (h : ¬ ¬ sE b 131072 = 0) (h2 : ¬ (b.length : Int) - sN b 131072 < sX b 131072) : fWhole b = ((sN b 131072 : Int), (sN b 131072 : Int) + sX b 131072, true) := if_pos ⟨Decidable.not_not.1 h, by omega⟩
theorem fWhole_bounds (b : Bytes) : 0 ≤ (fWhole b).1 ∧ (fWhole b).1 ≤ (fWhole b).2.1 ∧ (fWhole b).2.1 ≤ b.length ∧ (fWhole b).2.1 - (fWhole b).1 ≤ 131072 := by
  have hb := s_bounds b 131072 (by omega)
  have := hb.2.1 (by omega)
  unfold fWhole
  split
  · rename_i h; exact ⟨by dsimp only; omega, by dsimp only; omega, by dsimp only; omega, by dsimp only; omega⟩
  · exact ⟨Int.le_refl _, Int.le_refl _, by simp, by decide⟩
theorem fRead_bad {b : Bytes} (h : (fWhole b).2.2 = false) : fRead b = ([], 0, 5) := by
  unfold fWhole at h; unfold fRead
  split at h
  · cases h
  · rename_i h0; exact if_neg h0
theorem fRead_good {b : Bytes} (h : (fWhole b).2.2 = true) : fRead b = ((b.take (fWhole b).2.1.toNat).drop (fWhole b).1.toNat, (fWhole b).2.1, 0) := by
  have hb := s_bounds b 131072 (by omega)
  unfold fWhole at h ⊢; unfold fRead
  split at h
  · rename_i h0
    rw [if_pos h0, if_pos h0]
    dsimp only
    rw [List.drop_take, Int.toNat_natCast, show ((sN b 131072 : Int) + sX b 131072).toNat - sN b 131072 = sX b 131072 by omega]
  · cases h
theorem clone_nil' {e : Ty} {m : Mem} {A : Option Addr} {c : Nat} {l : List e.Den} (h : Rd (.sl e) m [.slice A l.length c] l) (hA : A = none) : l = [] := by
  subst hA
  obtain ⟨A', c', h1, _, _, h4⟩ := h
  rcases h4 with h4 | ⟨g, off, all, k1, _⟩
  · exact List.eq_nil_of_length_eq_zero h4
  · simp only [List.cons.injEq, Value.slice.injEq, and_true] at h1
    rw [← h1.1] at k1; cases k1
theorem fAppend_len (b r : Bytes) : (fAppend b r).1.length ≤ b.length + 131082 := by
  unfold fAppend
  split
  · simp
  · have := fEnc_len (r := r) (by omega)
    simp only [List.length_append]; omega
theorem fAppend_range (b r : Bytes) : 0 ≤ (fAppend b r).2 ∧ (fAppend b r).2 ≤ 3 := by unfold fAppend; split <;> exact ⟨by dsimp only; omega, by dsimp only; omega⟩
theorem cEnc_len {c : DCommit} (h : cCheck c = 0) : (cEnc c).length ≤ 700 := by
  have := cEncode_len c
  unfold cEncode at this
  rwa [if_pos h] at this
def cFrame (c : DCommit) : Bytes := fEnc (cEnc c)
def cFrames (l : List DCommit) : Bytes := (l.map cFrame).flatten
theorem cFrame_len {c : DCommit} (h : cCheck c = 0) : (cFrame c).length ≤ 710 ∧ 1 ≤ (cFrame c).length := by
  have h1 := cEnc_len h
  have h2 := fEnc_len (r := cEnc c) (by omega)
  exact ⟨by unfold cFrame; omega, fEnc_pos _⟩
theorem cFrames_cons (c : DCommit) (l : List DCommit) : cFrames (c :: l) = cFrame c ++ cFrames l := rfl
theorem cFrames_len : ∀ {l : List DCommit}, (∀ c ∈ l, cCheck c = 0) → (cFrames l).length ≤ 710 * l.length
  | [], _ => by simp [cFrames]
  | c :: l, h => by
    have h1 := cFrame_len (h c (.head _))
    have h2 := cFrames_len (l := l) fun x hx => h x (.tail _ hx)
    rw [cFrames_cons]
    simp only [List.length_append, List.length_cons]; omega
/-- a frame of a commit is read -/
theorem frame_there {c : DCommit} (h : cCheck c = 0) (s : Bytes) : fRead (cFrame c ++ s) = (cEnc c, ((cFrame c).length : Int), 0) ∧ cDecode (cEnc c) = (c, 0) :=
  ⟨fRead_there (by have := cEnc_len h; omega) s, cDecode_there h⟩
theorem frame_back {b : Bytes} (h : (fRead b).2.2 = 0) (h2 : (cDecode (fRead b).1).2 = 0) : cCheck (cDecode (fRead b).1).1 = 0 ∧ b = cFrame (cDecode (fRead b).1).1 ++ b.drop (fRead b).2.1.toNat ∧ (fRead b).2.1 = ((cFrame (cDecode (fRead b).1).1).length : Int) := by
  obtain ⟨h3, h4⟩ := cDecode_back h2
  obtain ⟨h5, h6, _⟩ := fRead_back h
  refine ⟨h3, ?_, ?_⟩
  · conv => lhs; rw [h5]
    unfold cFrame; rw [← h4]
  · unfold cFrame; rw [← h4]; exact h6
/-- a commit's frame, or none of one that may not be -/
def frameC (c : DCommit) : Bytes := (fAppend [] (cEncode c).1).1
theorem frameC_is {c : DCommit} (h : cCheck c = 0) : frameC c = cFrame c := by
  have := cEnc_len h
  unfold frameC cEncode; rw [if_pos h]; dsimp only
  rw [fAppend_good (by omega)]; rfl
theorem frameC_len (c : DCommit) : (frameC c).length ≤ 131082 := by
  have h := fAppend_len [] (cEncode c).1
  rw [List.length_nil, Nat.zero_add] at h; exact h
end
section
set_option linter.unusedVariables false
set_option linter.unusedSimpArgs false
set_option maxRecDepth 4000
theorem fnOk109 : fnOk Try.prog 109 = true := by kernel_rfl
theorem fnOk110 : fnOk Try.prog 110 = true := by kernel_rfl
theorem fnOk58 : fnOk Try.prog 58 = true := by kernel_rfl
theorem fnOk90 : fnOk Try.prog 90 = true := by kernel_rfl
theorem cloneB_ok (W : World) {v0 : Value} {d0 : List UInt8} (h0 : Rd (.sl .byte) (wm W) [v0] d0) (e0 : d0.length ≤ 140737488355000) : CallR Try.prog 110 [v0] W (mnil) (fun v m' => ∃ (s0 : Value), v = s0 ∧ Ow (.sl .byte) m' [s0] (d0)) := by
  obtain ⟨A0, c0, rfl, l0, k0⟩ := h0.slice
  simp only [maxLen] at k0
  refine CallR.ofA (n := 8) Try.func110 rfl rfl rfl ?_
  refine VC.rs ?_
  refine VO.as ?_
  refine VO.k2 0 2 ?_
  refine VC.seq ?_
  refine VC.rs ?_
  refine VO.mv ?_
  refine VO.y rfl (.snil rfl rfl Try.underlying25) ?_
  refine VO.k3 0 2 4 ?_
  refine VC.cond rfl (fun hc1 => ?_) (fun hc1 => ?_)
  · -- T
    refine VC.rs ?_
    refine VO.as ?_
    refine VO.kp [0] [(0, wm W)] ?_
    refine VO.k3 0 2 4 ?_
    refine VC.ret ?_
    refine outR ?_
    refine ⟨_, _, res_run (rs := [.tmp 2]) rfl (.tmp rfl .nil), fun W_ hI => out_of (l := []) hI [] rfl rfl (mle_refl _) (fun hS_ => ?_)⟩
    dsimp only [packV]
    have he0 : (d0 : Ty.Den (.sl .byte)) = [] := by first | rfl | (exact clone_nil' h0 ‹_ = none›)
    refine ⟨Value.slice none (0) (0), ?_, ?_⟩
    rotate_left
    · rw [he0]; exact (Ow.nil _ _)
    all_goals (first | rfl | (simp [*]; done))
  · -- F
    refine VC.skip ?_
    refine outN ?_
    refine VC.rs ?_
    refine VO.bsl (cs := []) 103 rfl rfl tsl25 tz5 rfl rfl (fun g2 => ?_)
    refine VO.mv ?_
    have ho5 : OwnL .byte (mone g2 (.cells [].toArray 5 (0, 0))) mnil (Value.slice (some ⟨g2, 0, none⟩) (0) (0)) [] := OwnL.lit 0 All2c.nil rfl rfl
    obtain ⟨mo4, cs4, hM4, hA4, hC4⟩ := ho5
    obtain ⟨all4, hS4, hR4⟩ := Rd.srcI (P := Try.prog) (h0) Try.underlying25
    refine VO.app 103 rfl rfl rfl tsl25 tz5 rfl rfl hM4 hA4 (hS4 _ 0 rfl) hR4.nice bdm bd (by decide) (fun v4 m4 hN4 => ?_)
    have ho4 : OwnL .byte m4 mnil v4 (d0) := OwnL.more hC4 hN4 (All2c.mono hR4 fun _ _ h => Rd.flat rfl h _)
    obtain ⟨A4, c4, rfl, l4, k4⟩ := ho4.slice
    simp only [maxLen] at k4
    refine VO.as ?_
    refine VO.kp [103, 0] [(103, m4), (0, wm W)] ?_
    refine VO.k3 0 2 4 ?_
    refine VC.ret ?_
    refine ⟨_, _, res_run (rs := [.tmp 2]) rfl (.tmp rfl .nil), fun W_ hI => out_of (l := [m4]) hI [103] rfl rfl (mle_refl _) (fun hS_ => ?_)⟩
    dsimp only [packV]
    have he0 : (d0 : Ty.Den (.sl .byte)) = d0 := by first | rfl | (exact clone_nil' h0 ‹_ = none›)
    refine ⟨Value.slice A4 ((d0).length) (c4), ?_, ?_⟩
    rotate_left
    · rw [he0]; exact (Ow.up (OwnL.ow ho4 rfl) (hS_.1 _ (.head _)))
    all_goals (first | rfl | (simp [*]; done))
theorem fAppend_ok (W : World) {v0 : Value} {d0 : List UInt8} (h0 : Rd (.sl .byte) (wm W) [v0] d0) {v1 : Value} {d1 : List UInt8} (h1 : Rd (.sl .byte) (wm W) [v1] d1) (e0 : d0.length ≤ 140737488000000) : CallR Try.prog 55 [v0, v1] W (mnil) (fun v m' => ∃ (s0 : Value), v = .tuple #[s0, .int .i64 ((fAppend d0 d1).2)] ∧ Ow (.sl .byte) m' [s0] ((fAppend d0 d1).1)) := by
  obtain ⟨A0, c0, rfl, l0, k0⟩ := h0.slice
  simp only [maxLen] at k0
  obtain ⟨A1, c1, rfl, l1, k1⟩ := h1.slice
  simp only [maxLen] at k1
  refine CallR.ofA (n := 16) Try.func55 rfl rfl rfl ?_
  refine VC.rs ?_
  refine VO.as ?_
  refine VO.as ?_
  refine VO.k4 0 1 4 5 ?_
  refine VC.seq ?_
  refine VC.rs ?_
  refine VO.mv ?_
  refine VO.y rfl (.lenS rfl tsl25) ?_
  refine VO.y rfl (.gtr rfl rfl) ?_
  refine VO.k5 0 1 4 5 8 ?_
  refine VC.cond rfl (fun hc1 => ?_) (fun hc1 => ?_)
  · -- T
    refine VC.rs ?_
    refine VO.as ?_
    refine VO.as ?_
    refine VO.kp [0] [(0, wm W)] ?_
    refine VO.k5 0 1 4 5 8 ?_
    refine VC.ret ?_
    refine outR ?_
    refine ⟨_, _, res_run (rs := [.tmp 4, .tmp 5]) rfl (.tmp rfl (.tmp rfl .nil)), fun W_ hI => out_of (l := []) hI [] rfl rfl (mle_refl _) (fun hS_ => ?_)⟩
    dsimp only [packV]
    have he0 : ((fAppend d0 d1).1 : Ty.Den (.sl .byte)) = [] := by first | rfl | (first | (rw [fAppend_long (by omega)] <;> rfl) | (rw [fAppend_good (by omega)] <;> first | rfl | (simp only [fEnc, List.append_assoc, Int.toNat_natCast, List.nil_append]; done)))
    refine ⟨Value.slice none (0) (0), ?_, ?_⟩
    rotate_left
    · rw [he0]; exact (Ow.nil _ _)
    all_goals (first | rfl | (first | (rw [fAppend_long (by omega)] <;> rfl) | (rw [fAppend_good (by omega)] <;> first | rfl | (simp only [fEnc, List.append_assoc, Int.toNat_natCast, List.nil_append]; done))))
  · -- F
    refine VC.skip ?_
    refine outN ?_
    refine VC.rs ?_
    refine VO.mv ?_
    refine VO.mv ?_
    refine VO.y rfl (.lenS rfl tsl25) ?_
    refine VO.y rfl (.cvI rfl ⟨_, Try.underlying3⟩ Try.underlying82 (IntWalk.u64_in _ bd)) ?_
    refine VO.callN 102 rfl fnOk54 rfl (fun W hW => vAppend_ok W (Rd.mono h0 (hW.at (i := 0) rfl)) d1.length bd bd) (fun v2 m2 hv2 => ?_)
    obtain ⟨s2_0, rfl, f2_0⟩ := hv2
    have hfa3 := venc_len (x := d1.length) (by first | omega | exact or64 (by assumption) _)
    obtain ⟨A2_0, c2_0, eq2_0, l2_0, k2_0⟩ := f2_0.slice
    subst eq2_0
    simp only [maxLen] at k2_0
    refine VO.mv ?_
    obtain ⟨mo4, cs4, hM4, hA4, hC4⟩ := (Ow.ownl f2_0 rfl mnil)
    obtain ⟨all4, hS4, hR4⟩ := Rd.srcI (P := Try.prog) (h1) Try.underlying25
    refine VO.app 102 rfl rfl rfl tsl25 tz5 rfl rfl hM4 hA4 (hS4 _ 0 rfl) hR4.nice bdm bd (by decide) (fun v4 m4 hN4 => ?_)
    have ho4 : OwnL .byte m4 mnil v4 ((d0 ++ venc d1.length) ++ d1) := OwnL.more hC4 hN4 (All2c.mono hR4 fun _ _ h => Rd.flat rfl h _)
    obtain ⟨A4, c4, rfl, l4, k4⟩ := ho4.slice
    simp only [maxLen] at k4
    refine VO.as ?_
    refine VO.as ?_
    refine VO.kp [102, 0] [(102, m4), (0, wm W)] ?_
    refine VO.k5 0 1 4 5 8 ?_
    refine VC.ret ?_
    refine ⟨_, _, res_run (rs := [.tmp 4, .tmp 5]) rfl (.tmp rfl (.tmp rfl .nil)), fun W_ hI => out_of (l := [m4]) hI [102] rfl rfl (mle_refl _) (fun hS_ => ?_)⟩
    dsimp only [packV]
    have he0 : ((fAppend d0 d1).1 : Ty.Den (.sl .byte)) = (d0 ++ venc d1.length) ++ d1 := by first | rfl | (first | (rw [fAppend_long (by omega)] <;> rfl) | (rw [fAppend_good (by omega)] <;> first | rfl | (simp only [fEnc, List.append_assoc, Int.toNat_natCast, List.nil_append]; done)))
    refine ⟨Value.slice A4 (((d0 ++ venc d1.length) ++ d1).length) (c4), ?_, ?_⟩
    rotate_left
    · rw [he0]; exact (Ow.up (OwnL.ow ho4 rfl) (hS_.1 _ (.head _)))
    all_goals (first | rfl | (first | (rw [fAppend_long (by omega)] <;> rfl) | (rw [fAppend_good (by omega)] <;> first | rfl | (simp only [fEnc, List.append_assoc, Int.toNat_natCast, List.nil_append]; done))))
theorem f9Append_ok (W : World) {v0 : Value} {d0 : List UInt8} (h0 : Rd (.sl .byte) (wm W) [v0] d0) {v1 : Value} {d1 : List UInt8} (h1 : Rd (.sl .byte) (wm W) [v1] d1) (e0 : d0.length ≤ 140737488000000) : CallR Try.prog 58 [v0, v1] W (mnil) (fun v m' => ∃ (s0 : Value), v = .tuple #[s0, .int .i64 ((fAppend d0 d1).2)] ∧ Ow (.sl .byte) m' [s0] ((fAppend d0 d1).1)) := by
  obtain ⟨A0, c0, rfl, l0, k0⟩ := h0.slice
  simp only [maxLen] at k0
  obtain ⟨A1, c1, rfl, l1, k1⟩ := h1.slice
  simp only [maxLen] at k1
  refine CallR.ofA (n := 17) Try.func58 rfl rfl rfl ?_
  refine VC.rs ?_
  refine VO.as ?_
  refine VO.as ?_
  refine VO.k4 0 1 4 5 ?_
  refine VC.seq ?_
  refine VC.rs ?_
  refine VO.mv ?_
  refine VO.y rfl (.lenS rfl tsl25) ?_
  refine VO.y rfl (.gtr rfl rfl) ?_
  refine VO.k5 0 1 4 5 9 ?_
  refine VC.cond rfl (fun hc1 => ?_) (fun hc1 => ?_)
  · -- T
    refine VC.rs ?_
    refine VO.as ?_
    refine VO.as ?_
    refine VO.kp [0] [(0, wm W)] ?_
    refine VO.k5 0 1 4 5 9 ?_
    refine VC.ret ?_
    refine outR ?_
    refine ⟨_, _, res_run (rs := [.tmp 4, .tmp 5]) rfl (.tmp rfl (.tmp rfl .nil)), fun W_ hI => out_of (l := []) hI [] rfl rfl (mle_refl _) (fun hS_ => ?_)⟩
    dsimp only [packV]
    have he0 : ((fAppend d0 d1).1 : Ty.Den (.sl .byte)) = [] := by first | rfl | (first | (rw [fAppend_long (by omega)] <;> rfl) | (rw [fAppend_good (by omega)] <;> first | rfl | (simp only [fEnc, List.append_assoc, Int.toNat_natCast, List.nil_append]; done)))
    refine ⟨Value.slice none (0) (0), ?_, ?_⟩
    rotate_left
    · rw [he0]; exact (Ow.nil _ _)
    all_goals (first | rfl | (first | (rw [fAppend_long (by omega)] <;> rfl) | (rw [fAppend_good (by omega)] <;> first | rfl | (simp only [fEnc, List.append_assoc, Int.toNat_natCast, List.nil_append]; done))))
  · -- F
    refine VC.skip ?_
    refine outN ?_
    refine VC.rs ?_
    refine VO.mv ?_
    refine VO.mv ?_
    refine VO.y rfl (.lenS rfl tsl25) ?_
    refine VO.callN 102 rfl fnOk57 rfl (fun W hW => rPut_ok W (Rd.mono h0 (hW.at (i := 0) rfl)) ((d1.length : Nat) : Int) bdk bd bd) (fun v2 m2 hv2 => ?_)
    obtain ⟨s2_0, rfl, f2_0⟩ := hv2
    have hfa3 := venc_len (x := ((d1.length : Nat) : Int).toNat) (by omega)
    obtain ⟨A2_0, c2_0, eq2_0, l2_0, k2_0⟩ := f2_0.slice
    subst eq2_0
    simp only [maxLen] at k2_0
    refine VO.as ?_
    refine VO.kp [102, 0] [(102, m2), (0, wm W)] ?_
    refine VO.k6 0 1 4 5 6 9 ?_
    refine VC.rs ?_
    refine VO.mv ?_
    refine VO.mv ?_
    obtain ⟨mo4, cs4, hM4, hA4, hC4⟩ := (Ow.ownl f2_0 rfl mnil)
    obtain ⟨all4, hS4, hR4⟩ := Rd.srcI (P := Try.prog) (h1) Try.underlying25
    refine VO.app 102 rfl rfl rfl tsl25 tz5 rfl rfl hM4 hA4 (hS4 _ 0 rfl) hR4.nice bdm bd (by decide) (fun v4 m4 hN4 => ?_)
    have ho4 : OwnL .byte m4 mnil v4 ((d0 ++ venc ((d1.length : Nat) : Int).toNat) ++ d1) := OwnL.more hC4 hN4 (All2c.mono hR4 fun _ _ h => Rd.flat rfl h _)
    obtain ⟨A4, c4, rfl, l4, k4⟩ := ho4.slice
    simp only [maxLen] at k4
    refine VO.as ?_
    refine VO.as ?_
    refine VO.k6 0 1 4 5 6 9 ?_
    refine VC.ret ?_
    refine ⟨_, _, res_run (rs := [.tmp 4, .tmp 5]) rfl (.tmp rfl (.tmp rfl .nil)), fun W_ hI => out_of (l := [m4]) hI [102] rfl rfl (mle_refl _) (fun hS_ => ?_)⟩
    dsimp only [packV]
    have he0 : ((fAppend d0 d1).1 : Ty.Den (.sl .byte)) = (d0 ++ venc ((d1.length : Nat) : Int).toNat) ++ d1 := by first | rfl | (first | (rw [fAppend_long (by omega)] <;> rfl) | (rw [fAppend_good (by omega)] <;> first | rfl | (simp only [fEnc, List.append_assoc, Int.toNat_natCast, List.nil_append]; done)))
    refine ⟨Value.slice A4 (((d0 ++ venc ((d1.length : Nat) : Int).toNat) ++ d1).length) (c4), ?_, ?_⟩
    rotate_left
    · rw [he0]; exact (Ow.up (OwnL.ow ho4 rfl) (hS_.1 _ (.head _)))
    all_goals (first | rfl | (first | (rw [fAppend_long (by omega)] <;> rfl) | (rw [fAppend_good (by omega)] <;> first | rfl | (simp only [fEnc, List.append_assoc, Int.toNat_natCast, List.nil_append]; done))))
theorem fWhole_ok (W : World) {v0 : Value} {d0 : List UInt8} (h0 : Rd (.sl .byte) (wm W) [v0] d0) : CallR Try.prog 109 [v0] W (mnil) (fun v m' => v = .tuple #[.int .i64 ((fWhole d0).1), .int .i64 ((fWhole d0).2.1), .bool ((fWhole d0).2.2)]) := by
  obtain ⟨A0, c0, rfl, l0, k0⟩ := h0.slice
  simp only [maxLen] at k0
  refine CallR.ofA (n := 28) Try.func109 rfl rfl rfl ?_
  refine VC.rs ?_
  refine VO.as ?_
  refine VO.as ?_
  refine VO.as ?_
  refine VO.k4 0 2 3 4 ?_
  refine VC.rs ?_
  refine VO.mv ?_
  refine VO.callN 101 rfl fnOk111 rfl (fun W hW => vSmall_ok W (Rd.mono h0 (hW.at (i := 0) rfl)) 131072 bdk) (fun v1 m1 hv1 => ?_)
  subst hv1
  have hfa2 := s_bounds d0 131072 (by omega)
  refine VO.mv ?_
  refine VO.y rfl (.ext rfl rfl) ?_
  refine VO.y rfl (.ext rfl rfl) ?_
  refine VO.y rfl (.ext rfl rfl) ?_
  refine VO.as ?_
  refine VO.as ?_
  refine VO.as ?_
  refine VO.k7 0 2 3 4 5 6 7 ?_
  refine VC.seq ?_
  refine VC.rs ?_
  refine VO.mv ?_
  refine VO.y rfl (.neq rfl rfl) ?_
  refine VO.mv ?_
  refine VO.dec (t := 16) rfl (fun hc3 => ?_) (fun hc3 => ?_)
  · -- T
    refine VO.gN ?_
    refine VO.gN ?_
    refine VO.gN ?_
    refine VO.gN ?_
    refine VO.gN ?_
    refine VO.gN ?_
    refine VO.y rfl (.pT rfl rfl) ?_
    refine VO.kp [0] [(0, wm W)] ?_
    refine VO.k8 0 2 3 4 5 6 7 23 ?_
    refine VC.condT rfl ?_
    refine VC.rs ?_
    refine VO.as ?_
    refine VO.as ?_
    refine VO.as ?_
    refine VO.k8 0 2 3 4 5 6 7 23 ?_
    refine VC.ret ?_
    refine outR ?_
    refine ⟨_, _, res_run (rs := [.tmp 2, .tmp 3, .tmp 4]) rfl (.tmp rfl (.tmp rfl (.tmp rfl .nil))), fun W_ hI => out_of (l := []) hI [] rfl rfl (mle_refl _) (fun hS_ => ?_)⟩
    dsimp only [packV]
    all_goals (first | rfl | (first | (rw [whole_no1 (by assumption)] <;> rfl) | (rw [whole_no2 (by omega)] <;> rfl) | (rw [whole_yes (by assumption) (by omega)] <;> rfl)))
  · -- F
    refine VO.gy rfl ⟨_, rfl, rfl⟩ (.mv rfl) ?_
    refine VO.gy rfl ⟨_, rfl, rfl⟩ (.lenS rfl tsl25) ?_
    refine VO.gy rfl ⟨_, rfl, rfl⟩ (.mv rfl) ?_
    refine VO.gy rfl ⟨_, rfl, rfl⟩ (.sub rfl rfl rfl ⟨bd, bd⟩) ?_
    refine VO.gy rfl ⟨_, rfl, rfl⟩ (.mv rfl) ?_
    refine VO.gy rfl ⟨_, rfl, rfl⟩ (.lss rfl rfl) ?_
    refine VO.y rfl (.pF rfl rfl) ?_
    refine VO.kp [0] [(0, wm W)] ?_
    refine VO.k8 0 2 3 4 5 6 7 23 ?_
    refine VC.cond rfl (fun hc4 => ?_) (fun hc4 => ?_)
    · -- FT
      refine VC.rs ?_
      refine VO.as ?_
      refine VO.as ?_
      refine VO.as ?_
      refine VO.k8 0 2 3 4 5 6 7 23 ?_
      refine VC.ret ?_
      refine outR ?_
      refine ⟨_, _, res_run (rs := [.tmp 2, .tmp 3, .tmp 4]) rfl (.tmp rfl (.tmp rfl (.tmp rfl .nil))), fun W_ hI => out_of (l := []) hI [] rfl rfl (mle_refl _) (fun hS_ => ?_)⟩
      dsimp only [packV]
      all_goals (first | rfl | (first | (rw [whole_no1 (by assumption)] <;> rfl) | (rw [whole_no2 (by omega)] <;> rfl) | (rw [whole_yes (by assumption) (by omega)] <;> rfl)))
    · -- FF
      refine VC.skip ?_
      refine outN ?_
      refine VC.rs ?_
      refine VO.mv ?_
      refine VO.mv ?_
      refine VO.mv ?_
      refine VO.y rfl (.add (c := ((sN d0 131072 + (sX d0 131072) : Nat) : Int)) rfl rfl (by omega) ⟨bd, bd⟩) ?_
      refine VO.as ?_
      refine VO.as ?_
      refine VO.as ?_
      refine VO.k8 0 2 3 4 5 6 7 23 ?_
      refine VC.ret ?_
      refine ⟨_, _, res_run (rs := [.tmp 2, .tmp 3, .tmp 4]) rfl (.tmp rfl (.tmp rfl (.tmp rfl .nil))), fun W_ hI => out_of (l := []) hI [] rfl rfl (mle_refl _) (fun hS_ => ?_)⟩
      dsimp only [packV]
      all_goals (first | rfl | (first | (rw [whole_no1 (by assumption)] <;> rfl) | (rw [whole_no2 (by omega)] <;> rfl) | (rw [whole_yes (by assumption) (by omega)] <;> rfl)))
theorem fRead_ok (W : World) {v0 : Value} {d0 : List UInt8} (h0 : Rd (.sl .byte) (wm W) [v0] d0) : CallR Try.prog 91 [v0] W (mnil) (fun v m' => ∃ (s0 : Value), v = .tuple #[s0, .int .i64 ((fRead d0).2.1), .int .i64 ((fRead d0).2.2)] ∧ Ow (.sl .byte) m' [s0] ((fRead d0).1)) := by
  obtain ⟨A0, c0, rfl, l0, k0⟩ := h0.slice
  simp only [maxLen] at k0
  refine CallR.ofA (n := 22) Try.func91 rfl rfl rfl ?_
  refine VC.rs ?_
  refine VO.as ?_
  refine VO.as ?_
  refine VO.as ?_
  refine VO.k4 0 2 3 4 ?_
  refine VC.rs ?_
  refine VO.mv ?_
  refine VO.callN 101 rfl fnOk109 rfl (fun W hW => fWhole_ok W (Rd.mono h0 (hW.at (i := 0) rfl))) (fun v1 m1 hv1 => ?_)
  subst hv1
  have hfa2 := fWhole_bounds d0
  refine VO.mv ?_
  refine VO.y rfl (.ext rfl rfl) ?_
  refine VO.y rfl (.ext rfl rfl) ?_
  refine VO.y rfl (.ext rfl rfl) ?_
  refine VO.as ?_
  refine VO.as ?_
  refine VO.as ?_
  refine VO.k7 0 2 3 4 5 6 7 ?_
  refine VC.seq ?_
  refine VC.rs ?_
  refine VO.mv ?_
  refine VO.y rfl (.not rfl) ?_
  refine VO.kp [0] [(0, wm W)] ?_
  refine VO.k8 0 2 3 4 5 6 7 15 ?_
  refine VC.condBN rfl (fun hc3 => ?_) (fun hc3 => ?_)
  · -- T
    refine VC.rs ?_
    refine VO.as ?_
    refine VO.as ?_
    refine VO.as ?_
    refine VO.k8 0 2 3 4 5 6 7 15 ?_
    refine VC.ret ?_
    refine outR ?_
    refine ⟨_, _, res_run (rs := [.tmp 2, .tmp 3, .tmp 4]) rfl (.tmp rfl (.tmp rfl (.tmp rfl .nil))), fun W_ hI => out_of (l := []) hI [] rfl rfl (mle_refl _) (fun hS_ => ?_)⟩
    dsimp only [packV]
    have he0 : ((fRead d0).1 : Ty.Den (.sl .byte)) = [] := by first | rfl | (first | (rw [fRead_bad (by first | assumption | simpa using ‹_›)] <;> rfl) | (rw [fRead_good (by first | assumption | simpa using ‹_›)] <;> rfl))
    refine ⟨Value.slice none (0) (0), ?_, ?_⟩
    rotate_left
    · rw [he0]; exact (Ow.nil _ _)
    all_goals (first | rfl | (first | (rw [fRead_bad (by first | assumption | simpa using ‹_›)] <;> rfl) | (rw [fRead_good (by first | assumption | simpa using ‹_›)] <;> rfl)))
  · -- F
    refine VC.skip ?_
    refine outN ?_
    refine VC.rs ?_
    refine VO.mv ?_
    refine VO.mv ?_
    refine VO.mv ?_
    obtain ⟨A4, hA4, hs4⟩ := h0.sub' 1 (((fWhole d0).1).toNat) (((fWhole d0).2.1).toNat) rfl bd bd
    refine VO.y rfl (.slI (((fWhole d0).1).toNat) (((fWhole d0).2.1).toNat) A4 rfl rfl rfl tsl25 bd bd hA4 bd bd) ?_
    refine VO.callN 105 rfl fnOk110 rfl (fun W hW => cloneB_ok W (Rd.mono hs4 (hW.at (i := 0) rfl)) bd) (fun v5 m5 hv5 => ?_)
    obtain ⟨s5_0, rfl, f5_0⟩ := hv5
    obtain ⟨A5_0, c5_0, eq5_0, l5_0, k5_0⟩ := f5_0.slice
    subst eq5_0
    simp only [maxLen] at k5_0
    refine VO.mv ?_
    refine VO.as ?_
    refine VO.as ?_
    refine VO.as ?_
    refine VO.k8 0 2 3 4 5 6 7 15 ?_
    refine VC.ret ?_
    refine ⟨_, _, res_run (rs := [.tmp 2, .tmp 3, .tmp 4]) rfl (.tmp rfl (.tmp rfl (.tmp rfl .nil))), fun W_ hI => out_of (l := [m5]) hI [105] rfl rfl (mle_refl _) (fun hS_ => ?_)⟩
    dsimp only [packV]
    have he0 : ((fRead d0).1 : Ty.Den (.sl .byte)) = ((d0.take (((fWhole d0).2.1).toNat)).drop (((fWhole d0).1).toNat)) := by first | rfl | (first | (rw [fRead_bad (by first | assumption | simpa using ‹_›)] <;> rfl) | (rw [fRead_good (by first | assumption | simpa using ‹_›)] <;> rfl))
    refine ⟨Value.slice A5_0 (((d0.take (((fWhole d0).2.1).toNat)).drop (((fWhole d0).1).toNat)).length) (c5_0), ?_, ?_⟩
    rotate_left
    · rw [he0]; exact (Ow.up (OwnL.ow (Ow.ownl f5_0 rfl mnil) rfl) (hS_.1 _ (.head _)))
    all_goals (first | rfl | (first | (rw [fRead_bad (by first | assumption | simpa using ‹_›)] <;> rfl) | (rw [fRead_good (by first | assumption | simpa using ‹_›)] <;> rfl)))
theorem f9Read_ok (W : World) {v0 : Value} {d0 : List UInt8} (h0 : Rd (.sl .byte) (wm W) [v0] d0) : CallR Try.prog 94 [v0] W (mnil) (fun v m' => ∃ (s0 : Value), v = .tuple #[s0, .int .i64 ((fRead d0).2.1), .int .i64 ((fRead d0).2.2)] ∧ Ow (.sl .byte) m' [s0] ((fRead d0).1)) := by
  obtain ⟨A0, c0, rfl, l0, k0⟩ := h0.slice
  simp only [maxLen] at k0
  refine CallR.ofA (n := 23) Try.func94 rfl rfl rfl ?_
  refine VC.rs ?_
  refine VO.as ?_
  refine VO.as ?_
  refine VO.as ?_
  refine VO.k4 0 2 3 4 ?_
  refine VC.rs ?_
  refine VO.mv ?_
  refine VO.y rfl (.bst (cs := [Value.slice A0 (d0.length) (c0), Value.int .i64 (0), Value.bool false]) rfl tst117 tz117 rfl) ?_
  refine VO.box (cs := [Value.slice A0 (d0.length) (c0), Value.int .i64 (0), Value.bool false]) 102 rfl rfl rfl (fun g1 => ?_)
  refine VO.as ?_
  refine VO.k5 0 2 3 4 5 ?_
  refine VC.rs ?_
  refine VO.mv ?_
  refine VO.mv ?_
  refine VO.call 102 rfl fnOk95 rfl rfl (fun W hW => rSmall_ok W (d0 := (d0, 0, false)) (hW.at (i := 102) rfl) (Rd.mono h0 (hW.out (i := 102) (j := 0) rfl rfl)) bdk 131072 bdk (by first | assumption | exact ⟨by omega, by omega⟩ | exact ⟨by (simp; done), by (simp; done)⟩)) (fun v3 m3 hv3 => ?_)
  try dsimp only at hv3
  obtain ⟨rfl, rfl, w3_0_1⟩ := hv3
  have hfa4 := (rNum_ok (B := d0) (m := 131072) (s := (0, false)) (by first | assumption | exact ⟨by omega, by omega⟩ | exact ⟨by (simp; done), by (simp; done)⟩) (by omega)).1
  have hfa5 := (rNum_ok (B := d0) (m := 131072) (s := (0, false)) (by first | assumption | exact ⟨by omega, by omega⟩ | exact ⟨by (simp; done), by (simp; done)⟩) (by omega)).1.1
  have hfa6 := (rNum_ok (B := d0) (m := 131072) (s := (0, false)) (by first | assumption | exact ⟨by omega, by omega⟩ | exact ⟨by (simp; done), by (simp; done)⟩) (by omega)).1.2
  have hfa7 := (rNum_ok (B := d0) (m := 131072) (s := (0, false)) (by first | assumption | exact ⟨by omega, by omega⟩ | exact ⟨by (simp; done), by (simp; done)⟩) (by omega)).2
  simp only [inK] at w3_0_1
  refine VO.call 102 rfl fnOk113 rfl rfl (fun W hW => rBytes_ok_ W (d0 := (d0, (rNum d0 131072 (0, false)).2)) (hW.at (i := 102) rfl) (Rd.mono h0 (hW.out (i := 102) (j := 0) rfl rfl)) bdk ((rNum d0 131072 (0, false)).1) bdk (by first | assumption | exact ⟨by omega, by omega⟩ | exact ⟨by (simp; done), by (simp; done)⟩) bd bd) (fun v8 m8 hv8 => ?_)
  try dsimp only at hv8
  obtain ⟨s8_0, p8_0, rfl, hS8, f8_0, w8_0_1⟩ := hv8
  refine VO.inv _ (fun _ h => h.parts (i := 102) rfl hS8 [109, 110]) ?_
  have hfa11 := (rBytes_ok (B := d0) (n := ((rNum d0 131072 (0, false)).1)) (s := ((rNum d0 131072 (0, false)).2)) (by first | assumption | exact ⟨by omega, by omega⟩ | exact ⟨by (simp; done), by (simp; done)⟩) (by omega)).1
  have hfa12 := (rBytes_ok (B := d0) (n := ((rNum d0 131072 (0, false)).1)) (s := ((rNum d0 131072 (0, false)).2)) (by first | assumption | exact ⟨by omega, by omega⟩ | exact ⟨by (simp; done), by (simp; done)⟩) (by omega)).1.1
  have hfa13 := (rBytes_ok (B := d0) (n := ((rNum d0 131072 (0, false)).1)) (s := ((rNum d0 131072 (0, false)).2)) (by first | assumption | exact ⟨by omega, by omega⟩ | exact ⟨by (simp; done), by (simp; done)⟩) (by omega)).1.2
  have hfa14 := (rBytes_ok (B := d0) (n := ((rNum d0 131072 (0, false)).1)) (s := ((rNum d0 131072 (0, false)).2)) (by first | assumption | exact ⟨by omega, by omega⟩ | exact ⟨by (simp; done), by (simp; done)⟩) (by omega)).2
  simp only [inK] at w8_0_1
  obtain ⟨A8_0, c8_0, eq8_0, l8_0, k8_0⟩ := f8_0.slice
  subst eq8_0
  simp only [maxLen] at k8_0
  refine VO.as ?_
  refine VO.kp [109, 110, 0] [(109, p8_0), (110, mone g1 (.cells [Value.slice A0 (d0.length) (c0), Value.int .i64 ((rBytes d0 ((rNum d0 131072 (0, false)).1) ((rNum d0 131072 (0, false)).2)).2.1), Value.bool ((rBytes d0 ((rNum d0 131072 (0, false)).1) ((rNum d0 131072 (0, false)).2)).2.2)].toArray 117 (0, 0))), (0, wm W)] ?_
  refine VO.k6 0 2 3 4 5 6 ?_
  refine VC.seq ?_
  refine VC.rs ?_
  refine VO.mv ?_
  refine VO.y rfl (.nilp rfl) ?_
  refine VO.y rfl (.fa rfl tst117 rfl) ?_
  refine VO.y rfl (.ld1 110 rfl tk4 rfl (cellsAt_one rfl rfl)) ?_
  refine VO.k7 0 2 3 4 5 6 17 ?_
  refine VC.condB rfl (fun hc15 => ?_) (fun hc15 => ?_)
  · -- T
    refine VC.rs ?_
    refine VO.as ?_
    refine VO.as ?_
    refine VO.as ?_
    refine VO.k7 0 2 3 4 5 6 17 ?_
    refine VC.ret ?_
    refine outR ?_
    refine ⟨_, _, res_run (rs := [.tmp 2, .tmp 3, .tmp 4]) rfl (.tmp rfl (.tmp rfl (.tmp rfl .nil))), fun W_ hI => out_of (l := []) hI [] rfl rfl (mle_refl _) (fun hS_ => ?_)⟩
    dsimp only [packV]
    have he0 : ((fRead d0).1 : Ty.Den (.sl .byte)) = [] := by first | rfl | (rw [fRead_ref]; first | (rw [if_pos (by assumption)] <;> rfl) | (rw [if_neg (by simp [*])] <;> rfl))
    refine ⟨Value.slice none (0) (0), ?_, ?_⟩
    rotate_left
    · rw [he0]; exact (Ow.nil _ _)
    all_goals (first | rfl | (rw [fRead_ref]; first | (rw [if_pos (by assumption)] <;> rfl) | (rw [if_neg (by simp [*])] <;> rfl)))
  · -- F
    refine VC.skip ?_
    refine outN ?_
    refine VC.seq ?_
    refine VC.regD _ 6 [(0, true), (1, true), (2, true), (3, true), (4, true), (5, true)] follows (by kernel_rfl) (fun _ h => h.sub [109, 110, 0]) ?_
    refine VD.y rfl rfl (.inl rfl) (.mv rfl) ?_
    refine VD.y rfl rfl (.inl rfl) (.mv rfl) ?_
    refine VD.y rfl rfl (.inl rfl) (.nilp rfl) ?_
    refine VD.y rfl rfl (.inl rfl) (.fa rfl tst117 rfl) ?_
    refine VD.y rfl rfl (.inl rfl) (.ld1 110 rfl tk3 rfl (cellsAt_one rfl rfl)) ?_
    refine VD.y rfl rfl (.inl rfl) (.as rfl) ?_
    refine VD.nil rfl ?_ rfl
    refine VO.as ?_
    refine VO.as ?_
    refine VO.k7 0 2 3 4 5 6 17 ?_
    refine outN ?_
    refine VC.ret ?_
    refine ⟨_, _, res_run (rs := [.tmp 2, .tmp 3, .tmp 4]) rfl (.tmp rfl (.tmp rfl (.tmp rfl .nil))), fun W_ hI => out_of (l := [p8_0]) hI [109] rfl rfl (mle_refl _) (fun hS_ => ?_)⟩
    dsimp only [packV]
    have he0 : ((fRead d0).1 : Ty.Den (.sl .byte)) = (rBytes d0 ((rNum d0 131072 (0, false)).1) ((rNum d0 131072 (0, false)).2)).1 := by first | rfl | (rw [fRead_ref]; first | (rw [if_pos (by assumption)] <;> rfl) | (rw [if_neg (by simp [*])] <;> rfl))
    refine ⟨Value.slice A8_0 (((rBytes d0 ((rNum d0 131072 (0, false)).1) ((rNum d0 131072 (0, false)).2)).1).length) (c8_0), ?_, ?_⟩
    rotate_left
    · rw [he0]; exact (Ow.up (OwnL.ow (Ow.ownl f8_0 rfl mnil) rfl) (hS_.1 _ (.head _)))
    all_goals (first | rfl | (rw [fRead_ref]; first | (rw [if_pos (by assumption)] <;> rfl) | (rw [if_neg (by simp [*])] <;> rfl)))
theorem c12Frame_ok (W : World) {v0 : List Value} {d0 : DCommit} (h0 : Rd TCommit (wm W) v0 d0) : CallR Try.prog 59 [.agg v0.toArray] W (mnil) (fun v m' => ∃ (s0 : Value), v = s0 ∧ Ow (.sl .byte) m' [s0] (frameC d0)) := by
  obtain ⟨p0_A2, p0_c2, rfl, p0_0, p0_1, p0_2⟩ := open_Commit (x0 := d0.1) (x1 := d0.2.1) (x2 := d0.2.2) h0
  simp only [inK] at p0_0
  simp only [inK] at p0_1
  have p0_r2 := Rd.room p0_2
  refine CallR.ofA (n := 18) Try.func59 rfl rfl rfl ?_
  refine VC.rs ?_
  refine VO.box (cs := [Value.int .i64 (d0.1), Value.int .i64 (d0.2.1), Value.slice p0_A2 (d0.2.2.length) (p0_c2)]) 102 rfl rfl rfl (fun g1 => ?_)
  refine VO.as ?_
  refine VO.k3 0 1 2 ?_
  refine VC.rs ?_
  refine VO.y rfl (.ldA 102 rfl tk32 rfl (cellsAt_one rfl rfl)) ?_
  refine VO.callN 103 rfl fnOk90 rfl (fun W hW => c4Encode_ok W (Rd.mono h0 (hW.at (i := 0) rfl))) (fun v3 m3 hv3 => ?_)
  obtain ⟨s3_0, rfl, f3_0⟩ := hv3
  have hfa4 := cEncode_len d0
  obtain ⟨A3_0, c3_0, eq3_0, l3_0, k3_0⟩ := f3_0.slice
  subst eq3_0
  simp only [maxLen] at k3_0
  refine VO.mv ?_
  refine VO.y rfl (.ext rfl rfl) ?_
  refine VO.y rfl (.ext rfl rfl) ?_
  refine VO.as ?_
  refine VO.as ?_
  refine VO.k4 0 1 2 3 ?_
  refine VC.rs ?_
  refine VO.mv ?_
  refine VO.callN 105 rfl fnOk58 rfl (fun W hW => f9Append_ok W (Rd.nil _ _ none 0 (Nat.zero_le _)) (OwnL.rd (Ow.ownl f3_0 rfl mnil) (hW.at (i := 103) rfl) (mle_nil _)) bd) (fun v5 m5 hv5 => ?_)
  obtain ⟨s5_0, rfl, f5_0⟩ := hv5
  have hfa6 := fAppend_len [] ((cEncode d0).1)
  have hfa7 := fAppend_range [] ((cEncode d0).1)
  obtain ⟨A5_0, c5_0, eq5_0, l5_0, k5_0⟩ := f5_0.slice
  subst eq5_0
  simp only [maxLen] at k5_0
  refine VO.mv ?_
  refine VO.y rfl (.ext rfl rfl) ?_
  refine VO.y rfl (.ext rfl rfl) ?_
  refine VO.as ?_
  refine VO.as ?_
  refine VO.kp [105, 103, 102, 0] [(105, m5), (103, m3), (102, mone g1 (.cells [Value.int .i64 (d0.1), Value.int .i64 (d0.2.1), Value.slice p0_A2 (d0.2.2.length) (p0_c2)].toArray 32 (0, 0))), (0, wm W)] ?_
  refine VO.k5 0 1 2 3 5 ?_
  refine VC.rs ?_
  refine VO.mv ?_
  refine VO.as ?_
  refine VO.k5 0 1 2 3 5 ?_
  refine VC.ret ?_
  refine ⟨_, _, res_run (rs := [.tmp 2]) rfl (.tmp rfl .nil), fun W_ hI => out_of (l := [m5]) hI [105] rfl rfl (mle_refl _) (fun hS_ => ?_)⟩
  dsimp only [packV]
  have he0 : (frameC d0 : Ty.Den (.sl .byte)) = (fAppend [] ((cEncode d0).1)).1 := by first | rfl | (simp [*]; done)
  refine ⟨Value.slice A5_0 (((fAppend [] ((cEncode d0).1)).1).length) (c5_0), ?_, ?_⟩
  rotate_left
  · rw [he0]; exact (Ow.up (OwnL.ow (Ow.ownl f5_0 rfl mnil) rfl) (hS_.1 _ (.head _)))
  all_goals (first | rfl | (simp [*]; done))
end
section
set_option linter.unusedVariables false
abbrev Ddiskstep := Int × Int × (List UInt8) × Int
instance decdiskstep : DecidableEq Ddiskstep := (@instDecidableEqProd _ _ inferInstance (@instDecidableEqProd _ _ inferInstance (@instDecidableEqProd _ _ inferInstance inferInstance)))
abbrev DdiskDisk := Bool × Bool × Bool × Int × Int × ((List UInt8) × (List UInt8) × (List UInt8) × (List UInt8)) × (List Ddiskstep)
instance decdiskDisk : DecidableEq DdiskDisk := (@instDecidableEqProd _ _ inferInstance (@instDecidableEqProd _ _ inferInstance (@instDecidableEqProd _ _ inferInstance (@instDecidableEqProd _ _ inferInstance (@instDecidableEqProd _ _ inferInstance (@instDecidableEqProd _ _ (@instDecidableEqProd _ _ inferInstance (@instDecidableEqProd _ _ inferInstance (@instDecidableEqProd _ _ inferInstance inferInstance))) inferInstance))))))
abbrev Dref05Raw := Int × Bool × Int × (List UInt8)
instance decref05Raw : DecidableEq Dref05Raw := (@instDecidableEqProd _ _ inferInstance (@instDecidableEqProd _ _ inferInstance (@instDecidableEqProd _ _ inferInstance inferInstance)))
abbrev Dref05Disk := Bool × ((List UInt8) × (List UInt8) × (List UInt8) × (List UInt8)) × (List Dref05Raw) × Bool × Bool × Int × Int
instance decref05Disk : DecidableEq Dref05Disk := (@instDecidableEqProd _ _ inferInstance (@instDecidableEqProd _ _ (@instDecidableEqProd _ _ inferInstance (@instDecidableEqProd _ _ inferInstance (@instDecidableEqProd _ _ inferInstance inferInstance))) (@instDecidableEqProd _ _ inferInstance (@instDecidableEqProd _ _ inferInstance (@instDecidableEqProd _ _ inferInstance (@instDecidableEqProd _ _ inferInstance inferInstance))))))
abbrev Dlaw05Act := Int × Int × Int × Int × (List UInt8)
instance declaw05Act : DecidableEq Dlaw05Act := (@instDecidableEqProd _ _ inferInstance (@instDecidableEqProd _ _ inferInstance (@instDecidableEqProd _ _ inferInstance (@instDecidableEqProd _ _ inferInstance inferInstance))))
end
section
set_option linter.unusedVariables false
abbrev Dur := Bytes × Bytes × Bytes × Bytes
abbrev DStep := Ddiskstep
abbrev DDisk := DdiskDisk
def getF (q : Dur) (f : Int) : Bytes := if f = 0 then q.1 else if f = 1 then q.2.1 else if f = 2 then q.2.2.1 else q.2.2.2
def setF (q : Dur) (f : Int) (b : Bytes) : Dur := if f = 0 then (b, q.2) else if f = 1 then (q.1, b, q.2.2) else if f = 2 then (q.1, q.2.1, b, q.2.2.2) else (q.1, q.2.1, q.2.2.1, b)
def doneB (b : Bytes) (s : DStep) : Bytes := if s.1 = 0 then b ++ s.2.2.1 else if s.1 = 1 then b.take s.2.2.2.toNat else b
def stepQ (q : Dur) (s : DStep) : Dur := setF q s.2.1 (doneB (getF q s.2.1) s)
def play (q : Dur) (l : List DStep) : Dur := l.foldl stepQ q
def heldStep (f : Int) (b : Bytes) (s : DStep) : Bytes := if s.2.1 = f then doneB b s else b
def heldB (q : Dur) (l : List DStep) (f : Int) : Bytes := l.foldl (heldStep f) (getF q f)
def inF (f : Int) : Prop := 0 ≤ f ∧ f < 4
instance (f : Int) : Decidable (inF f) := by unfold inF; infer_instance
theorem get_set {q : Dur} {f g : Int} {b : Bytes} (hf : inF f) (hg : inF g) : getF (setF q f b) g = if f = g then b else getF q g := by
  obtain ⟨h0, h1⟩ := hf; obtain ⟨h2, h3⟩ := hg
  obtain rfl | rfl | rfl | rfl : f = 0 ∨ f = 1 ∨ f = 2 ∨ f = 3 := by omega
  all_goals obtain rfl | rfl | rfl | rfl : g = 0 ∨ g = 1 ∨ g = 2 ∨ g = 3 := by omega
  all_goals rfl
/-- A step that may be pending. -/
def goodSt (q : Dur) (s : DStep) : Prop := (s.1 = 0 ∨ s.1 = 1) ∧ inF s.2.1 ∧ (s.1 = 0 → 1 ≤ s.2.2.1.length ∧ s.2.2.1.length ≤ 64) ∧ (s.1 = 1 → 0 ≤ s.2.2.2 ∧ s.2.2.2 ≤ (getF q s.2.1).length)
def goodL : Dur → List DStep → Prop
  | _, [] => True
  | q, s :: r => goodSt q s ∧ goodL (stepQ q s) r
theorem goodL_app : ∀ {l r : List DStep} {q : Dur}, goodL q (l ++ r) ↔ goodL q l ∧ goodL (play q l) r
  | [], r, q => by simp [goodL, play]
  | s :: l, r, q => by
    show goodSt q s ∧ goodL (stepQ q s) (l ++ r) ↔ (goodSt q s ∧ goodL (stepQ q s) l) ∧ goodL (play (stepQ q s) l) r
    rw [goodL_app (l := l), and_assoc]
theorem play_held : ∀ {l : List DStep} {q : Dur} {f : Int}, goodL q l → inF f → getF (play q l) f = heldB q l f
  | [], q, f, _, _ => rfl
  | s :: l, q, f, h, hf => by
    show getF (play (stepQ q s) l) f = _
    rw [play_held h.2 hf]
    show l.foldl (heldStep f) (getF (stepQ q s) f) = l.foldl (heldStep f) (heldStep f (getF q f) s)
    rw [stepQ, get_set h.1.2.1 hf]
    unfold heldStep
    split
    · rename_i he; rw [he]
    · rfl
def okD (d : DDisk) : Prop := goodL d.2.2.2.2.2.1 d.2.2.2.2.2.2 ∧ 0 ≤ d.2.2.2.1 ∧ 0 ≤ d.2.2.2.2.1
def wrongD (d : DDisk) : Int := if d.1 = false then 1 else if d.2.1 = true then 6 else 0
def burnD (d : DDisk) : DDisk × Bool := if d.2.2.1 = true then (if d.2.2.2.1 = 0 then ((d.1, true, d.2.2), false) else ((d.1, d.2.1, d.2.2.1, d.2.2.2.1 - 1, d.2.2.2.2.1 + 1, d.2.2.2.2.2), true)) else ((d.1, d.2.1, d.2.2.1, d.2.2.2.1, d.2.2.2.2.1 + 1, d.2.2.2.2.2), true)
def addP (d : DDisk) (s : DStep) : DDisk := (d.1, d.2.1, d.2.2.1, d.2.2.2.1, d.2.2.2.2.1, d.2.2.2.2.2.1, d.2.2.2.2.2.2 ++ [s])
def settleD (d : DDisk) (k : Nat) : DDisk := (d.1, d.2.1, d.2.2.1, d.2.2.2.1, d.2.2.2.2.1, play d.2.2.2.2.2.1 (d.2.2.2.2.2.2.take k), d.2.2.2.2.2.2.drop k)
end
section
set_option linter.unusedVariables false
theorem burn_ok {d : DDisk} (h : okD d) : okD (burnD d).1 := by
  obtain ⟨h1, h2, h3⟩ := h
  unfold burnD
  split
  · split
    · exact ⟨h1, h2, h3⟩
    · exact ⟨h1, by dsimp only; omega, by dsimp only; omega⟩
  · exact ⟨h1, h2, by dsimp only; omega⟩
theorem burn_same (d : DDisk) : (burnD d).1.1 = d.1 ∧ (burnD d).1.2.2.2.2.2 = d.2.2.2.2.2 := by
  unfold burnD
  split
  · split <;> exact ⟨rfl, rfl⟩
  · exact ⟨rfl, rfl⟩
theorem add_ok {d : DDisk} {s : DStep} (h : okD d) (hs : goodSt (play d.2.2.2.2.2.1 d.2.2.2.2.2.2) s) : okD (addP d s) :=
  ⟨goodL_app.2 ⟨h.1, hs, trivial⟩, h.2⟩
def writeGo : Nat → DDisk → Int → Bytes → DDisk × Int
  | 0, d, _, _ => (d, 0)
  | n + 1, d, f, b => if b.length = 0 then (d, 0) else if (burnD d).2 = true then writeGo n (addP (burnD d).1 (0, f, b.take 64, 0)) f (b.drop 64) else ((burnD d).1, 6)
section
variable {d d' : DDisk} {f : Int} {b : Bytes} {n m : Nat} {p : DDisk × Int}
theorem step_ok (h : okD d) (hf : inF f) (hb : 0 < b.length) (hm : m = min b.length 64) : okD (addP (burnD d).1 (0, f, b.take m, 0)) :=
  add_ok (burn_ok h) ⟨.inl rfl, hf, fun _ => by simp only [List.length_take]; omega, fun h => by cases h⟩
end
def dCut (d : DDisk) (f n : Int) : DDisk × Int := if ¬ wrongD d = 0 then (d, wrongD d) else if ¬ inF f ∨ n < 0 ∨ ((heldB d.2.2.2.2.2.1 d.2.2.2.2.2.2 f).length : Int) < n then (d, 2) else
  if (burnD d).2 = true then (addP (burnD d).1 (1, f, [], n), 0) else ((burnD d).1, 6)
theorem cut_ok {d : DDisk} {f n : Int} (h : okD d) : okD (dCut d f n).1 := by
  unfold dCut; split
  · exact h
  · split
    · exact h
    · rename_i h1
      have hf : inF f := Decidable.byContradiction fun q => h1 (.inl q)
      have hn : ¬ n < 0 := fun q => h1 (.inr (.inl q))
      have hl : ¬ ((heldB d.2.2.2.2.2.1 d.2.2.2.2.2.2 f).length : Int) < n := fun q => h1 (.inr (.inr q))
      split
      · refine add_ok (burn_ok h) ⟨.inr rfl, hf, fun h => (by cases h), fun _ => ?_⟩
        rw [(burn_same d).2]
        rw [play_held h.1 hf]
        dsimp only; omega
      · exact burn_ok h
def dFuse (d : DDisk) (n : Int) : DDisk × Int := if ¬ wrongD d = 0 then (d, wrongD d) else if n < 0 then (d, 2) else ((d.1, d.2.1, true, n, d.2.2.2.2), 0)
theorem fuse_ok {d : DDisk} {n : Int} (h : okD d) : okD (dFuse d n).1 := by
  unfold dFuse; split
  · exact h
  · split
    · exact h
    · exact ⟨h.1, by dsimp only; omega, h.2.2⟩
def tornQ (d : DDisk) (t : Int) : Dur := match d.2.2.2.2.2.2 with
  | [] => d.2.2.2.2.2.1
  | s :: _ => if s.1 = 0 then stepQ d.2.2.2.2.2.1 (s.1, s.2.1, s.2.2.1.take (min t ((s.2.2.1.length : Int) - 1)).toNat, s.2.2.2) else d.2.2.2.2.2.1
def dStart (d : DDisk) (k t : Int) : DDisk × Int := if d.1 = false then (d, 1) else if d.2.1 = false ∨ k < 0 ∨ t < 0 then (d, 2) else
  ((d.1, false, false, 0, d.2.2.2.2.1, tornQ (settleD d (min k d.2.2.2.2.2.2.length).toNat) t, []), 0)
theorem start_ok {d : DDisk} {k t : Int} (h : okD d) : okD (dStart d k t).1 := by
  unfold dStart; split
  · exact h
  · split
    · exact h
    · exact ⟨trivial, Int.le_refl _, h.2.2⟩
end
section
section
variable {P : Program} {n : Nat} {w0 : World} {σ : Env} {Ω : Ctx} {ops : Array Oper} {K : Env → Ctx → Prop}
theorem Stp.appO {e : Ty} {s x : Operand} {t xt et xe : TypeId} {b g c : Nat} {d : Option Nat} {gd : Option (Nat × Bool)} {ty : TypeId} {pos : String} {af : Array Edge} {v : Value} {xs : List e.Den} {y : e.Den} {yc z : List Value} (i j k : Nat) {m mj mk : Mem} (hsv : ev σ s = some v) (hxv : ev σ x = some (.slice (some ⟨g, 0, none⟩) 1 c)) (ht : tsl P t = some (et, e.sz, b)) (hz : tz P et = some z) (hzl : z.length = e.sz)
    (hm : cget Ω i = some m) (hj : cget (cdel Ω i) j = some mj) (hk : cget Ω k = some mk) (hown : Ow (.sl e) m [v] xs) (hy : Ow e mj yc y) (hxt : P.underlying xt = some (.slice xe)) (hc : cellsAt mk g 0 e.sz yc) (hml : xs.length + 1 ≤ maxLen) (hb : (xs.length + 1) * b ≤ 140737488355328) (hb0 : b ≠ 0) :
    Stp P n w0 σ Ω ⟨d, .call { callee := .builtin .append, args := [s, x].toArray, argTypes := [t, xt].toArray }, ty, pos, af, gd⟩ (fun v' Ω' => ∃ m', Ow (.sl e) m' [v'] (xs ++ [y]) ∧ Ω' = (i, m') :: cdel (cdel Ω i) j) :=
  fun a W he hi K' Q hK => by
    obtain ⟨m0, m1, rc, hS, hA, hL⟩ := hown.opn
    obtain ⟨q1, q2, q3, q4, _⟩ := hi.gets (ids := [i, j]) (l := [m, mj]) (by simp [cgets, hm, hj])
    have dmj : mdj m mj := by simpa using q1
    have d01 : mdj m0 m1 := by have := hS.2; simpa using this
    have l0 := hS.1 m0 (.head _)
    have l1 := hS.1 m1 (.tail _ (.head _))
    have d1j : mdj m1 mj := dmj.mono l1 (mle_refl _)
    have hnew : mdj m0 (mun m1 mj) := (mdj_un d01.symm (dmj.mono l0 (mle_refl _)).symm).symm
    have hΩ2 : Inv w0 ((i, m0) :: (j, mun m1 mj) :: cdel (cdel Ω i) j) W := by
      have hdel : Inv w0 (cdel (cdel Ω i) j) W := q4
      have f1 : ∀ p ∈ cdel (cdel Ω i) j, mdj m p.2 := fun p hp => q3 m (.head _) p hp
      have f2 : ∀ p ∈ cdel (cdel Ω i) j, mdj mj p.2 := fun p hp => q3 mj (.tail _ (.head _)) p hp
      refine ⟨hi.os, hi.tape, hi.output, hi.size, fun p hp => ?_, List.pairwise_cons.2 ⟨fun p hp => ?_, List.pairwise_cons.2 ⟨fun p hp => ?_, hdel.dj⟩⟩⟩
      · rcases List.mem_cons.1 hp with rfl | hp
        · exact l0.trans (hi.at hm)
        · rcases List.mem_cons.1 hp with rfl | hp
          · exact mun_le (l1.trans (hi.at hm)) (q2 mj (.tail _ (.head _)))
          · exact hdel.le p hp
      · rcases List.mem_cons.1 hp with rfl | hp
        · exact hnew
        · exact (f1 p hp).mono l0 (mle_refl _)
      · exact mdj_un ((f1 p hp).mono l1 (mle_refl _)) (f2 p hp)
    have hsrc : SrcW P W e.sz xt (.slice (some ⟨g, 0, none⟩) 1 c) 1 yc := by
      refine ⟨⟨_, hxt, by simp⟩, by rw [hy.len]; omega, fun W' hW => ?_, fun W' => by simp [Builtin.lenOf]⟩
      have hc2 : cellsAt (wm W') g 0 (1 * e.sz) yc := by
        rw [Nat.one_mul]
        refine hc.mono (fun q o ho => ?_)
        have := hi.at hk q o ho
        unfold wm at this ⊢
        rw [hW]; exact this
      exact firstCells_row hc2
    refine app_wp (i := i) (m := m0) (m0 := m0) he hΩ2 hsv hxv ht hz hzl (by simp [cget]) (mle_refl _) hA hsrc hy.nice hml hb hb0 fun v' m' W' hA' hi' => ?_
    have hc' : cset ((i, m0) :: (j, mun m1 mj) :: cdel (cdel Ω i) j) i m' = (i, m') :: (j, mun m1 mj) :: cdel (cdel Ω i) j := by simp [cset]
    rw [hc'] at hi'
    have hdj : mdj m' (mun m1 mj) := (List.pairwise_cons.1 hi'.dj).1 _ (.head _)
    have hall : OwAll (Ow e) (mun m1 mj) (rc ++ yc) (xs ++ [y]) := OwAll.app d1j (mle_un_left _ _) (mle_un_right d1j) hL (.one hy (mle_refl _))
    have how : Ow (.sl e) (mun m' (mun m1 mj)) [v'] (xs ++ [y]) := ⟨v', m', mun m1 mj, rc ++ yc, rfl, hdj, mle_un_left _ _, mle_un_right hdj, by simpa using hA', hall⟩
    refine hK v' ((i, mun m' (mun m1 mj)) :: cdel (cdel Ω i) j) W' ⟨_, how, rfl⟩ ?_
    refine ⟨hi'.os, hi'.tape, hi'.output, hi'.size, fun p hp => ?_, List.pairwise_cons.2 ⟨fun p hp => ?_, (List.pairwise_cons.1 (List.pairwise_cons.1 hi'.dj).2).2⟩⟩
    · rcases List.mem_cons.1 hp with rfl | hp
      · exact mun_le (hi'.le (i, m') (.head _)) (hi'.le (j, mun m1 mj) (.tail _ (.head _)))
      · exact hi'.le p (.tail _ (.tail _ hp))
    · exact mdj_un ((List.pairwise_cons.1 hi'.dj).1 p (.tail _ hp)) ((List.pairwise_cons.1 (List.pairwise_cons.1 hi'.dj).2).1 p hp)
theorem VD.appO {tt q : Nat} {ss : List (Nat × Bool)} {ΩS : Ctx} {ty : TypeId} {pos : String} {af : Array Edge} {e : Ty} {s x : Operand} {t xt et xe : TypeId} {b dd g c : Nat} {v : Value} {xs : List e.Den} {y : e.Den} {yc z : List Value} (i j k : Nat) {m mj mk : Mem} (hd : Nat.blt dd n = true) (ho : ops[q]? = some ⟨some dd, .call { callee := .builtin .append, args := [s, x].toArray, argTypes := [t, xt].toArray }, ty, pos, af, none⟩) (hsv : ev σ s = some v) (hxv : ev σ x = some (.slice (some ⟨g, 0, none⟩) 1 c)) (ht : tsl P t = some (et, e.sz, b)) (hz : tz P et = some z) (hzl : z.length = e.sz)
    (hm : cget Ω i = some m) (hj : cget (cdel Ω i) j = some mj) (hk : cget Ω k = some mk) (hown : Ow (.sl e) m [v] xs) (hy : Ow e mj yc y) (hxt : P.underlying xt = some (.slice xe)) (hc : cellsAt mk g 0 e.sz yc) (hml : xs.length + 1 ≤ maxLen) (hb : (xs.length + 1) * b ≤ 140737488355328) (hb0 : b ≠ 0) (hS : ∀ m' W, Inv w0 ((i, m') :: cdel (cdel Ω i) j) W → Inv w0 ΩS W)
    (h : ∀ v' m', Ow (.sl e) m' [v'] (xs ++ [y]) → VD P n w0 ops ΩS tt ss ((dd, v') :: σ) ((i, m') :: cdel (cdel Ω i) j) K) : VD P n w0 ops ΩS tt ((q, false) :: ss) σ Ω K :=
  VD.s (fun v => (dd, v) :: σ) ho (fun v _ he => he.put hd v) (.inl rfl) (Stp.appO i j k hsv hxv ht hz hzl hm hj hk hown hy hxt hc hml hb hb0) (fun _ _ ⟨m', _, hΩ⟩ W hW => hS m' W (by subst hΩ; exact hW)) (fun v _ ⟨m', hp, hΩ⟩ => hΩ ▸ h v m' hp)
end
end
section
set_option linter.unusedVariables false
abbrev DAct := Dlaw05Act
def smallA (l : List DAct) : Prop := (∀ a ∈ l, a.2.2.2.2.length ≤ 400) ∧ l.length ≤ 100
instance (l : List DAct) : Decidable (smallA l) := by unfold smallA; infer_instance
structure Fz (n : Int) (d : DDisk) : Prop where
  ok : okD d
  made : d.1 = true
  has : d.2.2.1 = true
  sum : d.2.2.2.2.1 + d.2.2.2.1 = n
  off : d.2.1 = true → d.2.2.2.1 = 0
theorem Fz.burn {n : Int} {d : DDisk} (h : Fz n d) (ho : d.2.1 = false) : Fz n (burnD d).1 ∧ ((burnD d).2 = true ↔ (burnD d).1.2.1 = false) ∧ ((burnD d).2 = true → (burnD d).1.2.1 = false) := by
  have hk := burn_ok h.ok
  obtain ⟨h1, h2, h3, h4, h5⟩ := h
  unfold burnD at hk ⊢
  rw [if_pos h3] at hk ⊢
  split
  · rename_i h0
    rw [if_pos h0] at hk
    exact ⟨⟨hk, h2, h3, h4, fun _ => h0⟩, by simp, by simp⟩
  · rename_i h0
    rw [if_neg h0] at hk
    exact ⟨⟨hk, h2, h3, by dsimp only; omega, fun q => absurd (ho.symm.trans q) (by decide)⟩, by simp [ho], fun _ => ho⟩
theorem Fz.add {n : Int} {d : DDisk} {s : DStep} (h : Fz n d) (hk : okD (addP d s)) : Fz n (addP d s) := ⟨hk, h.made, h.has, h.sum, h.off⟩
/-- What a call leaves: e the answer, d' the disk behind it. -/
structure Fs (n : Int) (d d' : DDisk) (e : Int) : Prop where
  fz : Fz n d'
  off : e = 6 ↔ d'.2.1 = true
  arg : e = 2 → d' = d
theorem Fs.wrong {n : Int} {d : DDisk} (h : Fz n d) (hw : ¬ wrongD d = 0) : Fs n d d (wrongD d) := by
  have hm : ¬ d.1 = false := by rw [h.made]; decide
  unfold wrongD at hw ⊢
  rw [if_neg hm] at hw ⊢
  by_cases ho : d.2.1 = true
  · rw [if_pos ho]; exact ⟨h, by simp [ho], fun q => by cases q⟩
  · rw [if_neg ho] at hw; exact absurd rfl hw
theorem on_of {n : Int} {d : DDisk} (h : Fz n d) (hw : wrongD d = 0) : d.2.1 = false := by
  have hm : ¬ d.1 = false := by rw [h.made]; decide
  unfold wrongD at hw
  rw [if_neg hm] at hw
  by_cases ho : d.2.1 = true
  · rw [if_pos ho] at hw; cases hw
  · simpa using ho
theorem Fs.go {m : Nat} : ∀ {n : Int} {d : DDisk} {f : Int} {b : Bytes}, Fz n d → inF f → d.2.1 = false → Fs n d (writeGo m d f b).1 (writeGo m d f b).2 := by
  induction m with
  | zero => intro n d f b h _ ho; exact ⟨h, by simp [writeGo, ho], fun _ => rfl⟩
  | succ m ih =>
    intro n d f b h hf ho
    obtain ⟨k1, k2, k3⟩ := h.burn ho
    unfold writeGo
    split
    · exact ⟨h, by simp [ho], fun _ => rfl⟩
    · rename_i h0
      split
      · rename_i hb
        have e1 : b.take 64 = b.take (min b.length 64) := by
          by_cases h0 : b.length ≤ 64
          · rw [Nat.min_eq_left h0, List.take_of_length_le h0, List.take_of_length_le (Nat.le_refl _)]
          · rw [Nat.min_eq_right (by omega)]
        have hs := step_ok (m := min b.length 64) h.ok hf (by omega) rfl
        rw [← e1] at hs
        have hq := ih (b := b.drop 64) (k1.add hs) hf (k3 hb)
        refine ⟨hq.fz, hq.off, fun q => ?_⟩
        exfalso
        have : ∀ (m : Nat) (d : DDisk) (b : Bytes), (writeGo m d f b).2 = 0 ∨ (writeGo m d f b).2 = 6 := by
          intro m
          induction m with
          | zero => intro d b; exact .inl rfl
          | succ m ih => intro d b; unfold writeGo; split
                         · exact .inl rfl
                         · split
                           · exact ih _ _
                           · exact .inr rfl
        rcases this m _ (b.drop 64) with e | e <;> rw [e] at q <;> cases q
      · rename_i hb
        refine ⟨k1, ?_, fun q => by cases q⟩
        have : (burnD d).1.2.1 = true := by
          cases hc : (burnD d).1.2.1 with
          | true => rfl
          | false => exact absurd (k2.2 hc) hb
        simp [this]
theorem Fs.cut {n : Int} {d : DDisk} {f k : Int} (h : Fz n d) : Fs n d (dCut d f k).1 (dCut d f k).2 := by
  have hk := cut_ok (f := f) (n := k) h.ok
  unfold dCut at hk ⊢
  split
  · rename_i hw; exact Fs.wrong h hw
  · rename_i hw
    have ho := on_of h (Decidable.not_not.1 hw)
    obtain ⟨k1, k2, k3⟩ := h.burn ho
    split
    · exact ⟨h, by simp [ho], fun _ => rfl⟩
    · rename_i hf
      rw [if_neg hw, if_neg hf] at hk
      split
      · rename_i hb
        rw [if_pos hb] at hk
        exact ⟨k1.add hk, by show (0 : Int) = 6 ↔ (burnD d).1.2.1 = true; simp [k3 hb], fun q => by cases q⟩
      · rename_i hb
        refine ⟨k1, ?_, fun q => by cases q⟩
        have : (burnD d).1.2.1 = true := by
          cases hc : (burnD d).1.2.1 with
          | true => rfl
          | false => exact absurd (k2.2 hc) hb
        simp [this]
end
section
set_option linter.unusedVariables false
abbrev DRaw := Dref05Raw
abbrev DRDisk := Dref05Disk
def stepOf (r : DRaw) : DStep := (if r.2.1 = true then 1 else 0, r.1, r.2.2.2, r.2.2.1)
def rawOf (s : DStep) : DRaw := (s.2.1, decide (s.1 = 1), s.2.2.2, s.2.2.1)
@[simp] theorem raw_step (r : DRaw) : rawOf (stepOf r) = r := by obtain ⟨f, c, t, b⟩ := r; cases c <;> rfl
theorem step_raw {s : DStep} (h : s.1 = 0 ∨ s.1 = 1) : stepOf (rawOf s) = s := by
  obtain ⟨k, f, b, t⟩ := s
  rcases h with h | h <;> (dsimp only at h; subst h; rfl)
@[simp] theorem raws_steps (l : List DRaw) : (l.map stepOf).map rawOf = l := by
  rw [List.map_map]
  conv => rhs; rw [← List.map_id l]
  congr 1; funext r; exact raw_step r
@[simp] theorem comp_rs : rawOf ∘ stepOf = id := funext raw_step
theorem steps_raws : ∀ {l : List DStep} {q : Dur}, goodL q l → (l.map rawOf).map stepOf = l
  | [], _, _ => rfl
  | s :: l, q, h => by rw [List.map_cons, List.map_cons, step_raw h.1.1, steps_raws h.2]
def fromR (r : DRDisk) : DDisk := (r.1, !r.2.2.2.1, r.2.2.2.2.1, if r.2.2.2.2.1 = true then r.2.2.2.2.2.1 else 0, r.2.2.2.2.2.2, r.2.1, r.2.2.1.map stepOf)
def toR (d : DDisk) (x : Int) : DRDisk := (d.1, d.2.2.2.2.2.1, d.2.2.2.2.2.2.map rawOf, !d.2.1, d.2.2.1, if d.2.2.1 = true then d.2.2.2.1 else x, d.2.2.2.2.1)
/-- A disk without a fuse has none left. -/
def nf (d : DDisk) : Prop := d.2.2.1 = false → d.2.2.2.1 = 0
theorem from_to {d : DDisk} {x : Int} (h : okD d) (hn : nf d) : fromR (toR d x) = d := by
  obtain ⟨m, o, f, n, c, q, l⟩ := d
  have h1 := steps_raws h.1
  unfold nf at hn
  dsimp only at h1 hn
  unfold fromR toR
  dsimp only
  rw [h1]
  cases f
  · simp [hn rfl]
  · simp
theorem nf_from (r : DRDisk) : nf (fromR r) := by
  unfold nf fromR
  dsimp only
  intro h; rw [h]; rfl
section
variable {d : DDisk}
theorem nf_fuse {n : Int} (h : nf d) : nf (dFuse d n).1 := by
  unfold dFuse; split
  · exact h
  · split
    · exact h
    · intro q; cases q
theorem nf_start {k t : Int} (h : nf d) : nf (dStart d k t).1 := by
  unfold dStart; split
  · exact h
  · split
    · exact h
    · intro _; rfl
end
end
section
set_option linter.unusedVariables false
abbrev TSection : Ty := .pair (.int .i64) (.pair (.int .i64) (.sl TCommit))
abbrev DSection := Int × Int × (List DCommit)
instance decSection : DecidableEq DSection := (@instDecidableEqProd _ _ inferInstance (@instDecidableEqProd _ _ inferInstance inferInstance))
theorem open_Section {m : Mem} {cs : List Value} {x0 : Int} {x1 : Int} {x2 : List DCommit} (h : Rd TSection m cs (x0, x1, x2)) : ∃ (A2 : Option Addr), ∃ (c2 : Nat), cs = [(.int .i64 x0 : Value), .int .i64 x1, .slice A2 x2.length c2] ∧ inK .i64 x0 ∧ inK .i64 x1 ∧ Rd (.sl TCommit) m [.slice A2 x2.length c2] x2 := by
  obtain ⟨p1, q1, rfl, u1, w1⟩ := Rd.pair h
  obtain ⟨rfl, z2⟩ := (show _ = _ ∧ _ from u1)
  obtain ⟨p3, q3, rfl, u3, w3⟩ := Rd.pair w1
  obtain ⟨rfl, z4⟩ := (show _ = _ ∧ _ from u3)
  have z5 := w3
  obtain ⟨A5, c5, rfl, _⟩ := Rd.slice1 w3
  exact ⟨A5, c5, rfl, z2, z4, z5⟩
theorem mk_Section {m : Mem} (x0 : Int) (x1 : Int) (x2 : List DCommit) (h0 : inK .i64 x0) (h1 : inK .i64 x1) {v2 : Value} (h2 : Rd (.sl TCommit) m [v2] x2) : Rd TSection m [.int .i64 x0, .int .i64 x1, v2] (x0, x1, x2) := (Rd.mkPair (c1 := [_]) (show Rd (.int .i64) m [_] _ from ⟨rfl, h0⟩) (Rd.mkPair (c1 := [_]) (show Rd (.int .i64) m [_] _ from ⟨rfl, h1⟩) h2))
theorem openO_Section {m : Mem} {cs : List Value} {x0 : Int} {x1 : Int} {x2 : List DCommit} (h : Ow TSection m cs (x0, x1, x2)) : ∃ (A2 : Option Addr), ∃ (c2 : Nat), ∃ (n2 : Mem), cs = [(.int .i64 x0 : Value), .int .i64 x1, .slice A2 x2.length c2] ∧ Seps m [n2] ∧ inK .i64 x0 ∧ inK .i64 x1 ∧ Ow (.sl TCommit) n2 [.slice A2 x2.length c2] x2 := by
  obtain ⟨p1, q1, ma1, mb1, rfl, dj1, la1, lb1, u1, w1⟩ := Ow.pair h
  obtain ⟨rfl, z2⟩ := (show _ = _ ∧ _ from u1)
  obtain ⟨p3, q3, ma3, mb3, rfl, dj3, la3, lb3, u3, w3⟩ := Ow.pair w1
  obtain ⟨rfl, z4⟩ := (show _ = _ ∧ _ from u3)
  have z5 := w3
  obtain ⟨A5, c5, rfl, _⟩ := Ow.slice1 w3
  exact ⟨A5, c5, _, rfl, (Seps.app dj1 la1 lb1 (Seps.nil _) (Seps.app dj3 la3 lb3 (Seps.nil _) (Seps.one (mle_refl _)))), z2, z4, z5⟩
theorem mkO_Section {m : Mem} {n2 : Mem} (x0 : Int) (x1 : Int) (x2 : List DCommit) (hS : Seps m [n2]) (h0 : inK .i64 x0) (h1 : inK .i64 x1) {v2 : Value} (h2 : Ow (.sl TCommit) n2 [v2] x2) : Ow TSection m [.int .i64 x0, .int .i64 x1, v2] (x0, x1, x2) := by
  obtain ⟨e1, la1, lb1, Sa1, Sb1⟩ := Seps.cut (l := []) (r := [n2]) hS
  obtain ⟨e2, la2, lb2, Sa2, Sb2⟩ := Seps.cut (l := []) (r := [n2]) Sb1
  exact (Ow.mkPair (c1 := [_]) e1 la1 lb1 (show Ow (.int .i64) _ [_] _ from ⟨rfl, h0⟩) (Ow.mkPair (c1 := [_]) e2 la2 lb2 (show Ow (.int .i64) _ [_] _ from ⟨rfl, h1⟩) (h2.up (Sb2.1 _ (.head _)))))
end
section
set_option linter.unusedVariables false
def zS : DSection := (0, 0, [])
def sectCheck (s : DSection) : Int := if s.1 < 1 ∨ 1048576 < s.1 ∨ s.2.1 < 0 ∨ s.2.2.length = 0 then 2 else if ¬ (cFollows 1 s.2.1 s.2.2).1 = 0 then (cFollows 1 s.2.1 s.2.2).1 else if s.1 ≤ lastOr 0 s.2.2 then 15 else 0
section
variable {s : DSection} {k : Nat} {x : DCommit}
theorem sect_bad1 (h : s.1 < 1 ∨ 1048576 < s.1 ∨ s.2.1 < 0 ∨ (s.2.2.length : Int) = 0) : sectCheck s = 2 := if_pos (by omega)
theorem sect_bad2 (h1 : ¬ s.1 < 1) (h2 : ¬ 1048576 < s.1) (h3 : ¬ s.2.1 < 0) (h4 : ¬ (s.2.2.length : Int) = 0) (h : ¬ (cFollows 1 s.2.1 s.2.2).1 = 0) : sectCheck s = (cFollows 1 s.2.1 s.2.2).1 := by
  unfold sectCheck; rw [if_neg (by omega), if_pos h]
theorem sect_bad3 (h1 : ¬ s.1 < 1) (h2 : ¬ 1048576 < s.1) (h3 : ¬ s.2.1 < 0) (h4 : ¬ (s.2.2.length : Int) = 0) (h : ¬ ¬ (cFollows 1 s.2.1 s.2.2).1 = 0) (hx : s.2.2[k]? = some x) (h0 : k + 1 = s.2.2.length) (h5 : s.1 ≤ x.1) : sectCheck s = 15 := by
  unfold sectCheck; rw [if_neg (by omega), if_neg h, lastOr_eq hx h0, if_pos h5]
theorem sect_good (h1 : ¬ s.1 < 1) (h2 : ¬ 1048576 < s.1) (h3 : ¬ s.2.1 < 0) (h4 : ¬ (s.2.2.length : Int) = 0) (h : ¬ ¬ (cFollows 1 s.2.1 s.2.2).1 = 0) (hx : s.2.2[k]? = some x) (h0 : k + 1 = s.2.2.length) (h5 : ¬ s.1 ≤ x.1) : sectCheck s = 0 := by
  unfold sectCheck; rw [if_neg (by omega), if_neg h, lastOr_eq hx h0, if_neg h5]
theorem sect_ok (h : sectCheck s = 0) : 1 ≤ s.1 ∧ s.1 ≤ 1048576 ∧ 0 ≤ s.2.1 ∧ 1 ≤ s.2.2.length ∧ (cFollows 1 s.2.1 s.2.2).1 = 0 ∧ lastOr 0 s.2.2 < s.1 := by
  unfold sectCheck at h
  split at h
  · cases h
  · split at h
    · exact absurd h ‹_›
    · split at h
      · cases h
      · rename_i h1 h2 h3
        exact ⟨by omega, by omega, by omega, by omega, Decidable.not_not.1 h2, by omega⟩
theorem sect_commits (h : sectCheck s = 0) : ∀ c ∈ s.2.2, cCheck c = 0 := cFollowsAt_ok (sect_ok h).2.2.2.2.1
theorem sect_fork (h : sectCheck s = 0) : s.2.1 + s.2.2.length ≤ 1048576 := by
  obtain ⟨h1, h2, h3, h4, h5, h6⟩ := sect_ok h
  obtain ⟨x, hx⟩ : ∃ x, s.2.2[s.2.2.length - 1]? = some x := ⟨_, List.getElem?_eq_getElem (by omega)⟩
  have := follows_get h5 hx
  have h7 := cCheck_ok this.2.2.1
  omega
theorem sectCheck_range (s : DSection) : 0 ≤ sectCheck s ∧ sectCheck s ≤ 15 := by
  unfold sectCheck
  split
  · omega
  · split
    · exact cFollowsAt_range _ _ _ _
    · split <;> omega
end
def sectHead (s : DSection) : Bytes := venc s.1.toNat ++ (venc s.2.1.toNat ++ venc s.2.2.length)
def sectEnc (s : DSection) : Bytes := fEnc (sectHead s) ++ cFrames s.2.2
def sectEncode (s : DSection) : Bytes × Int := if sectCheck s = 0 then (sectEnc s, 0) else ([], sectCheck s)
theorem sectEncode_bad {s : DSection} (h : ¬ sectCheck s = 0) : sectEncode s = ([], sectCheck s) := if_neg h
theorem sectEncode_good {s : DSection} (h : ¬ ¬ sectCheck s = 0) : sectEncode s = (sectEnc s, 0) := if_pos (Decidable.not_not.1 h)
theorem sectHead_len {s : DSection} (h : sectCheck s = 0) : (sectHead s).length ≤ 30 := by
  have h1 := sect_ok h
  have h2 := sect_fork h
  have v1 := venc_len (x := s.1.toNat) (by omega)
  have v2 := venc_len (x := s.2.1.toNat) (by omega)
  have v3 := venc_len (x := s.2.2.length) (by omega)
  simp only [sectHead, List.length_append]; omega
theorem sectEnc_len {s : DSection} (h : sectCheck s = 0) : (sectEnc s).length ≤ 40 + 710 * s.2.2.length ∧ s.2.2.length ≤ 1048576 ∧ 1 ≤ (sectEnc s).length := by
  have h1 := sectHead_len h
  have h2 := cFrames_len (sect_commits h)
  have h3 := fEnc_len (r := sectHead s) (by omega)
  have h4 := sect_fork h
  have h5 := sect_ok h
  have h6 := fEnc_pos (sectHead s)
  simp only [sectEnc, List.length_append]; omega
theorem sectEncode_len (s : DSection) : (sectEncode s).1.length ≤ 800000000 ∧ (sectEncode s).1.length ≤ 40 + 710 * s.2.2.length := by
  unfold sectEncode
  split
  · have := sectEnc_len ‹_›; dsimp only; omega
  · simp
def hB1 (B : Bytes) : Bytes := B.drop (sN B 1048576)
def hB2 (B : Bytes) : Bytes := (hB1 B).drop (sN (hB1 B) 1048576)
def hB3 (B : Bytes) : Bytes := (hB2 B).drop (sN (hB2 B) 1048576)
def headS (B : Bytes) : DSection × Int × Bool := if sE B 1048576 = 0 ∧ sE (hB1 B) 1048576 = 0 ∧ sE (hB2 B) 1048576 = 0 then (((sX B 1048576 : Int), (sX (hB1 B) 1048576 : Int), []), (sX (hB2 B) 1048576 : Int), decide (((hB3 B).length : Int) = 0)) else (zS, 0, false)
theorem headS_no1 {B : Bytes} (h : ¬ sE B 1048576 = 0) : headS B = (zS, 0, false) := if_neg fun q => h q.1
theorem headS_no2 {B : Bytes} (h : ¬ sE (hB1 B) 1048576 = 0) : headS B = (zS, 0, false) := if_neg fun q => h q.2.1
theorem headS_no3 {B : Bytes} (h : ¬ sE (hB2 B) 1048576 = 0) : headS B = (zS, 0, false) := if_neg fun q => h q.2.2
theorem headS_yes {B : Bytes} (h : ¬ ¬ sE B 1048576 = 0) (h1 : ¬ ¬ sE (hB1 B) 1048576 = 0) (h2 : ¬ ¬ sE (hB2 B) 1048576 = 0) : headS B = (((sX B 1048576 : Int), (sX (hB1 B) 1048576 : Int), []), (sX (hB2 B) 1048576 : Int), decide (((hB3 B).length : Int) = 0)) :=
  if_pos ⟨Decidable.not_not.1 h, Decidable.not_not.1 h1, Decidable.not_not.1 h2⟩
theorem headS_x2 {B : Bytes} (h : ¬ sE (B.drop (sN B 1048576)) 1048576 = 0) : headS B = (zS, 0, false) := headS_no2 h
theorem headS_x3 {B : Bytes} (h : ¬ sE ((B.drop (sN B 1048576)).drop (sN (B.drop (sN B 1048576)) 1048576)) 1048576 = 0) : headS B = (zS, 0, false) := headS_no3 h
theorem headS_x4 {B : Bytes} (h : ¬ ¬ sE B 1048576 = 0) (h1 : ¬ ¬ sE (B.drop (sN B 1048576)) 1048576 = 0) (h2 : ¬ ¬ sE ((B.drop (sN B 1048576)).drop (sN (B.drop (sN B 1048576)) 1048576)) 1048576 = 0) :
    headS B = (((sX B 1048576 : Int), (sX (B.drop (sN B 1048576)) 1048576 : Int), []), (sX ((B.drop (sN B 1048576)).drop (sN (B.drop (sN B 1048576)) 1048576)) 1048576 : Int), decide (((((B.drop (sN B 1048576)).drop (sN (B.drop (sN B 1048576)) 1048576)).drop (sN ((B.drop (sN B 1048576)).drop (sN (B.drop (sN B 1048576)) 1048576)) 1048576)).length : Int) = 0)) := headS_yes h h1 h2
theorem headS_range (B : Bytes) : 0 ≤ (headS B).2.1 ∧ (headS B).2.1 ≤ 1048576 ∧ 0 ≤ (headS B).1.1 ∧ (headS B).1.1 ≤ 1048576 ∧ 0 ≤ (headS B).1.2.1 ∧ (headS B).1.2.1 ≤ 1048576 ∧ (headS B).1.2.2 = [] := by
  have h1 := (s_bounds B 1048576 (by omega)).2.1 (by omega)
  have h2 := (s_bounds (hB1 B) 1048576 (by omega)).2.1 (by omega)
  have h3 := (s_bounds (hB2 B) 1048576 (by omega)).2.1 (by omega)
  unfold headS
  split
  · dsimp only; exact ⟨by omega, by omega, by omega, by omega, by omega, by omega, rfl⟩
  · exact ⟨by decide, by decide, by decide, by decide, by decide, by decide, rfl⟩
abbrev hR1 (B : Bytes) : Int × RS := rNum B 1048576 (0, false)
abbrev hR2 (B : Bytes) : Int × RS := rNum B 1048576 (hR1 B).2
abbrev hR3 (B : Bytes) : Int × RS := rNum B 1048576 (hR2 B).2
theorem head_ref {B : Bytes} : (¬ ((hR3 B).2.2 = false ∧ (hR3 B).2.1 = B.length) → (headS B).2.2 = false) ∧ (((hR3 B).2.2 = false ∧ (hR3 B).2.1 = B.length) → headS B = (((hR1 B).1, (hR2 B).1, []), (hR3 B).1, true)) := by
  have b1 := s_bounds B 1048576 (by omega)
  have b2 := s_bounds (hB1 B) 1048576 (by omega)
  have b3 := s_bounds (hB2 B) 1048576 (by omega)
  have stuck : ∀ s : RS, s.2 = true → (rNum B 1048576 s).2.2 = true := fun s hs => by rw [rNum_bad hs]; exact hs
  by_cases h1 : sE B 1048576 = 0
  · have e1 : hR1 B = ((sX B 1048576 : Int), ((sN B 1048576 : Int), false)) := by unfold hR1; rw [rNum_some rfl (by simpa using h1)]; simp
    by_cases h2 : sE (hB1 B) 1048576 = 0
    · have e2 : hR2 B = ((sX (hB1 B) 1048576 : Int), ((sN B 1048576 : Int) + (sN (hB1 B) 1048576 : Int), false)) := by
        unfold hR2; rw [e1, rNum_some rfl (by simpa [hB1] using h2)]; simp [hB1]
      have ed : B.drop ((sN B 1048576 : Int) + (sN (hB1 B) 1048576 : Int)).toNat = hB2 B := by
        rw [show ((sN B 1048576 : Int) + (sN (hB1 B) 1048576 : Int)).toNat = sN B 1048576 + sN (hB1 B) 1048576 by omega, ← List.drop_drop]; rfl
      by_cases h3 : sE (hB2 B) 1048576 = 0
      · have e3 : hR3 B = ((sX (hB2 B) 1048576 : Int), ((sN B 1048576 : Int) + (sN (hB1 B) 1048576 : Int) + (sN (hB2 B) 1048576 : Int), false)) := by
          unfold hR3; rw [e2, rNum_some rfl (by dsimp only; rw [ed]; exact h3)]
          dsimp only; rw [ed]
        have l1 : (hB1 B).length = B.length - sN B 1048576 := by simp [hB1]
        have l2 : (hB2 B).length = (hB1 B).length - sN (hB1 B) 1048576 := by simp [hB2]
        have l3 : (hB3 B).length = (hB2 B).length - sN (hB2 B) 1048576 := by simp [hB3]
        rw [e3, e2, e1, headS_yes (by simpa using h1) (by simpa using h2) (by simpa using h3)]
        dsimp only
        refine ⟨fun h => decide_eq_false fun q => h ⟨rfl, by omega⟩, fun h => ?_⟩
        rw [decide_eq_true (by omega)]
      · have e3 : (hR3 B).2.2 = true := by
          unfold hR3; rw [e2, rNum_none rfl (by dsimp only; rw [ed]; exact h3)]
        rw [headS_no3 h3]
        exact ⟨fun _ => rfl, fun h => by rw [e3] at h; cases h.1⟩
    · have e2 : (hR2 B).2.2 = true := by
        unfold hR2; rw [e1, rNum_none rfl (by simpa [hB1] using h2)]
      have e3 : (hR3 B).2.2 = true := stuck _ e2
      rw [headS_no2 h2]
      exact ⟨fun _ => rfl, fun h => by rw [e3] at h; cases h.1⟩
  · have e1 : (hR1 B).2.2 = true := by unfold hR1; rw [rNum_none rfl (by simpa using h1)]
    have e3 : (hR3 B).2.2 = true := stuck _ (stuck _ e1)
    rw [headS_no1 h1]
    exact ⟨fun _ => rfl, fun h => by rw [e3] at h; cases h.1⟩
theorem head_refx {B : Bytes} : (¬ ((rNum B 1048576 (rNum B 1048576 (rNum B 1048576 (0, false)).2).2).2.2 = false ∧ (rNum B 1048576 (rNum B 1048576 (rNum B 1048576 (0, false)).2).2).2.1 = B.length) → (headS B).2.2 = false) ∧
    (((rNum B 1048576 (rNum B 1048576 (rNum B 1048576 (0, false)).2).2).2.2 = false ∧ (rNum B 1048576 (rNum B 1048576 (rNum B 1048576 (0, false)).2).2).2.1 = B.length) → headS B = (((rNum B 1048576 (0, false)).1, (rNum B 1048576 (rNum B 1048576 (0, false)).2).1, []), (rNum B 1048576 (rNum B 1048576 (rNum B 1048576 (0, false)).2).2).1, true)) := head_ref
theorem fol_ne {e n : Int} {l : List DCommit} (h : ¬ ((cFollows e n l).1 = 0 ∧ (cFollows e n l).2 = 0)) : ¬ (cFollows e n l).1 = 0 := fun q => h (none_iff.2 q)
theorem fol_eq {e n : Int} {l : List DCommit} (h : ¬ ¬ ((cFollows e n l).1 = 0 ∧ (cFollows e n l).2 = 0)) : ¬ ¬ (cFollows e n l).1 = 0 := fun q => h fun r => q r.1
def comGo : Nat → Bytes → List DCommit → Int → Option (List DCommit × Int)
  | 0, _, acc, a => some (acc, a)
  | n + 1, b, acc, a => if ¬ (fRead (b.drop a.toNat)).2.2 = 0 then none else if ¬ (cDecode (fRead (b.drop a.toNat)).1).2 = 0 then none else comGo n b (acc ++ [(cDecode (fRead (b.drop a.toNat)).1).1]) (a + (fRead (b.drop a.toNat)).2.1)
def secRead (b : Bytes) : DSection × Int × Bool :=
  if ¬ (fRead b).2.2 = 0 then (zS, 0, false) else if (headS (fRead b).1).2.2 = false then (zS, 0, false) else
    match comGo (headS (fRead b).1).2.1.toNat b [] (fRead b).2.1 with
    | none => (zS, 0, false)
    | some (cs, a) => (((headS (fRead b).1).1.1, (headS (fRead b).1).1.2.1, cs), a, decide (sectCheck ((headS (fRead b).1).1.1, (headS (fRead b).1).1.2.1, cs) = 0))
section
variable {b : Bytes} {n : Nat} {acc : List DCommit} {a : Int} {p : Option (List DCommit × Int)}
theorem com_no1 (hp : p = comGo n b acc a) (h : 0 < n) (h1 : ¬ (fRead (b.drop a.toNat)).2.2 = 0) : p = none := by
  rw [hp]; obtain ⟨m, rfl⟩ : ∃ m, n = m + 1 := ⟨n - 1, by omega⟩
  exact if_pos h1
theorem com_no2 (hp : p = comGo n b acc a) (h : 0 < n) (h1 : ¬ ¬ (fRead (b.drop a.toNat)).2.2 = 0) (h2 : ¬ (cDecode (fRead (b.drop a.toNat)).1).2 = 0) : p = none := by
  rw [hp]; obtain ⟨m, rfl⟩ : ∃ m, n = m + 1 := ⟨n - 1, by omega⟩
  rw [comGo, if_neg h1, if_pos h2]
theorem com_next (hp : p = comGo n b acc a) (h : 0 < n) (h1 : ¬ ¬ (fRead (b.drop a.toNat)).2.2 = 0) (h2 : ¬ ¬ (cDecode (fRead (b.drop a.toNat)).1).2 = 0) : p = comGo (n - 1) b (acc ++ [(cDecode (fRead (b.drop a.toNat)).1).1]) (a + (fRead (b.drop a.toNat)).2.1) := by
  rw [hp]; obtain ⟨m, rfl⟩ : ∃ m, n = m + 1 := ⟨n - 1, by omega⟩
  rw [comGo, if_neg h1, if_neg h2]; rfl
theorem com_end (hp : p = comGo n b acc a) (h : n = 0) : p = some (acc, a) := by subst h; exact hp
theorem com_read (b : Bytes) (a : Int) (h : 0 ≤ a) (h2 : a ≤ b.length) : 0 ≤ (fRead (b.drop a.toNat)).2.1 ∧ a + (fRead (b.drop a.toNat)).2.1 ≤ b.length := by
  have := fRead_bounds (b.drop a.toNat)
  simp only [List.length_drop] at this
  omega
theorem comGo_bounds : ∀ {n : Nat} {acc : List DCommit} {a : Int} {cs : List DCommit} {e : Int}, 0 ≤ a → a ≤ b.length → comGo n b acc a = some (cs, e) → a ≤ e ∧ e ≤ b.length ∧ cs.length = acc.length + n ∧ ((∀ c ∈ acc, cCheck c = 0) → ∀ c ∈ cs, cCheck c = 0)
  | 0, acc, a, cs, e, h, h2, hp => by cases hp; exact ⟨Int.le_refl _, h2, rfl, fun h => h⟩
  | n + 1, acc, a, cs, e, h, h2, hp => by
    have hb := com_read b a h h2
    unfold comGo at hp
    split at hp
    · cases hp
    · split at hp
      · cases hp
      · rename_i h3 h4
        obtain ⟨k1, k2, k3, k4⟩ := comGo_bounds (by omega) hb.2 hp
        simp only [List.length_append, List.length_cons, List.length_nil] at k3
        refine ⟨by omega, k2, by omega, fun hc => k4 fun c hc2 => ?_⟩
        rcases List.mem_append.1 hc2 with q | q
        · exact hc c q
        · simp only [List.mem_cons, List.not_mem_nil, or_false] at q; subst q
          exact (cDecode_back (Decidable.not_not.1 h4)).1
end
theorem sec_no1 {b : Bytes} (h : ¬ (fRead b).2.2 = 0) : secRead b = (zS, 0, false) := if_pos h
theorem sec_no2 {b : Bytes} (h : (headS (fRead b).1).2.2 = false) : secRead b = (zS, 0, false) := by
  unfold secRead
  by_cases h0 : (fRead b).2.2 = 0
  · rw [if_neg (by simpa using h0), if_pos h]
  · rw [if_pos h0]
theorem sec_no3 {b : Bytes} (h : ¬ ¬ (fRead b).2.2 = 0) (h2 : ¬ (headS (fRead b).1).2.2 = false) (hc : comGo (headS (fRead b).1).2.1.toNat b [] (fRead b).2.1 = none) : secRead b = (zS, 0, false) := by
  unfold secRead; rw [if_neg h, if_neg h2, hc]
theorem sec_yes {b : Bytes} {cs : List DCommit} {a : Int} (h : ¬ ¬ (fRead b).2.2 = 0) (h2 : ¬ (headS (fRead b).1).2.2 = false) (hc : comGo (headS (fRead b).1).2.1.toNat b [] (fRead b).2.1 = some (cs, a)) :
    secRead b = (((headS (fRead b).1).1.1, (headS (fRead b).1).1.2.1, cs), a, decide (sectCheck ((headS (fRead b).1).1.1, (headS (fRead b).1).1.2.1, cs) = 0)) := by
  unfold secRead; rw [if_neg h, if_neg h2, hc]
theorem secRead_bounds (b : Bytes) : 0 ≤ (secRead b).2.1 ∧ (secRead b).2.1 ≤ b.length ∧ ((secRead b).2.2 = true → 1 ≤ (secRead b).2.1 ∧ sectCheck (secRead b).1 = 0) ∧ 0 ≤ (secRead b).1.1 ∧ (secRead b).1.1 ≤ 1048576 ∧ (∀ c ∈ (secRead b).1.2.2, c.2.2.length ≤ 8) ∧ (secRead b).1.2.2.length ≤ 1048576 := by
  have hz : 0 ≤ (zS, (0 : Int), false).2.1 ∧ (zS, (0 : Int), false).2.1 ≤ b.length ∧ ((zS, (0 : Int), false).2.2 = true → 1 ≤ (zS, (0 : Int), false).2.1 ∧ sectCheck (zS, (0 : Int), false).1 = 0) ∧ 0 ≤ (zS, (0 : Int), false).1.1 ∧ (zS, (0 : Int), false).1.1 ≤ 1048576 ∧ (∀ c ∈ (zS, (0 : Int), false).1.2.2, c.2.2.length ≤ 8) ∧ (zS, (0 : Int), false).1.2.2.length ≤ 1048576 :=
    ⟨Int.le_refl _, by simp, (fun h => by cases h), Int.le_refl _, by decide, (fun c h => by cases h), by decide⟩
  by_cases h : (fRead b).2.2 = 0
  · by_cases h2 : (headS (fRead b).1).2.2 = false
    · rw [sec_no2 h2]; exact hz
    · cases hc : comGo (headS (fRead b).1).2.1.toNat b [] (fRead b).2.1 with
      | none => rw [sec_no3 (by simpa using h) h2 hc]; exact hz
      | some p =>
        obtain ⟨cs, a⟩ := p
        have hf := fRead_bounds b
        have hh := headS_range (fRead b).1
        obtain ⟨k1, k2, k3, k4⟩ := comGo_bounds hf.1 hf.2.1 hc
        rw [sec_yes (by simpa using h) h2 hc]
        have := hf.2.2.2.2.1 h
        simp only [List.length_nil] at k3
        refine ⟨by dsimp only; omega, k2, fun q => ⟨by dsimp only; omega, of_decide_eq_true q⟩, hh.2.2.1, hh.2.2.2.1, fun c hc => ?_, by dsimp only; omega⟩
        exact batchCheck_ok (cCheck_ok (k4 (fun _ h => by cases h) c hc)).2.2.2.2
  · rw [sec_no1 h]; exact hz
theorem headS_there {s : DSection} (h : sectCheck s = 0) : headS (sectHead s) = ((s.1, s.2.1, []), (s.2.2.length : Int), true) := by
  have h1 := sect_ok h
  have h2 := sect_fork h
  obtain ⟨a1, a2, a3⟩ := s_there (x := s.1.toNat) (m := 1048576) (by omega) (by omega) (venc s.2.1.toNat ++ venc s.2.2.length)
  obtain ⟨b1, b2, b3⟩ := s_there (x := s.2.1.toNat) (m := 1048576) (by omega) (by omega) (venc s.2.2.length)
  obtain ⟨c1, c2, c3⟩ := s_there (x := s.2.2.length) (m := 1048576) (by omega) (by omega) []
  rw [List.append_nil] at c1 c2 c3
  have e1 : hB1 (sectHead s) = venc s.2.1.toNat ++ venc s.2.2.length := by unfold hB1 sectHead; rw [a2, List.drop_left]
  have e2 : hB2 (sectHead s) = venc s.2.2.length := by unfold hB2; rw [e1, b2, List.drop_left]
  have e3 : hB3 (sectHead s) = [] := by unfold hB3; rw [e2, c2, List.drop_length]
  have q3 : sE (sectHead s) 1048576 = 0 := a3
  rw [headS_yes (by simpa using q3) (by rw [e1]; simpa using b3) (by rw [e2]; simpa using c3), e1, e2, e3, b1, c1, show sX (sectHead s) 1048576 = _ from a1]
  rw [show ((s.1.toNat : Nat) : Int) = s.1 by omega, show ((s.2.1.toNat : Nat) : Int) = s.2.1 by omega]
  rfl
theorem headS_back {B : Bytes} (h : (headS B).2.2 = true) : B = venc (headS B).1.1.toNat ++ (venc (headS B).1.2.1.toNat ++ venc (headS B).2.1.toNat) := by
  by_cases h1 : sE B 1048576 = 0
  · by_cases h2 : sE (hB1 B) 1048576 = 0
    · by_cases h3 : sE (hB2 B) 1048576 = 0
      · rw [headS_yes (by simpa using h1) (by simpa using h2) (by simpa using h3)] at h ⊢
        have hl : (hB3 B).length = 0 := by have := of_decide_eq_true h; omega
        have e1 := s_back h1
        have e2 := s_back h2
        have e3 := s_back h3
        rw [show (hB2 B).drop (sN (hB2 B) 1048576) = [] from List.eq_nil_of_length_eq_zero hl, List.append_nil] at e3
        dsimp only
        simp only [Int.toNat_natCast]
        rw [← e3, show hB2 B = (hB1 B).drop (sN (hB1 B) 1048576) from rfl, ← e2]
        exact e1
      · rw [headS_no3 h3] at h; cases h
    · rw [headS_no2 h2] at h; cases h
  · rw [headS_no1 h1] at h; cases h
theorem comGo_there : ∀ {l : List DCommit} {b r : Bytes} {a : Nat} {acc : List DCommit}, (∀ c ∈ l, cCheck c = 0) → b.drop a = cFrames l ++ r → comGo l.length b acc (a : Int) = some (acc ++ l, ((a + (cFrames l).length : Nat) : Int))
  | [], b, r, a, acc, _, hd => by simp [comGo, cFrames]
  | c :: l, b, r, a, acc, hc, hd => by
    rw [cFrames_cons, List.append_assoc] at hd
    obtain ⟨k1, k2⟩ := frame_there (hc c (.head _)) (cFrames l ++ r)
    rw [← hd] at k1
    show comGo (l.length + 1) b acc (a : Int) = _
    rw [comGo, Int.toNat_natCast, k1, if_neg (by simp), if_neg (by rw [k2]; simp), k2]
    dsimp only
    have hn : b.drop (a + (cFrame c).length) = cFrames l ++ r := by rw [← List.drop_drop, hd, List.drop_left]
    have ih := comGo_there (acc := acc ++ [c]) (fun x hx => hc x (.tail _ hx)) hn
    rw [← Int.natCast_add, ih, cFrames_cons]
    simp [Nat.add_assoc]
theorem comGo_back : ∀ {n : Nat} {b : Bytes} {acc cs : List DCommit} {a : Nat} {e : Int}, a ≤ b.length → comGo n b acc (a : Int) = some (cs, e) → ∃ l, cs = acc ++ l ∧ l.length = n ∧ (∀ c ∈ l, cCheck c = 0) ∧ b.drop a = cFrames l ++ b.drop e.toNat ∧ e = ((a + (cFrames l).length : Nat) : Int)
  | 0, b, acc, cs, a, e, ha, h => by cases h; exact ⟨[], by simp, rfl, (fun c h => by cases h), by simp [cFrames], by simp [cFrames]⟩
  | n + 1, b, acc, cs, a, e, ha, h => by
    unfold comGo at h
    rw [Int.toNat_natCast] at h
    split at h
    · cases h
    · rename_i h1
      split at h
      · cases h
      · rename_i h2
        obtain ⟨k1, k2, k3⟩ := frame_back (Decidable.not_not.1 h1) (Decidable.not_not.1 h2)
        generalize hc : (cDecode (fRead (b.drop a)).1).1 = c at *
        rw [k3, ← Int.natCast_add] at h
        have hl := congrArg List.length k2
        simp only [List.length_append, List.length_drop] at hl
        obtain ⟨l, j1, j2, j3, j4, j5⟩ := comGo_back (by rw [k3] at hl; omega) h
        rw [k3, Int.toNat_natCast, List.drop_drop] at k2
        refine ⟨c :: l, by rw [j1]; simp, by simp [j2], fun x hx => ?_, ?_, ?_⟩
        · rcases List.mem_cons.1 hx with rfl | hx
          · exact k1
          · exact j3 x hx
        · rw [k2, j4, cFrames_cons, List.append_assoc]
        · rw [j5, cFrames_cons]; simp [Nat.add_assoc]
theorem secRead_there {s : DSection} (h : sectCheck s = 0) (r : Bytes) : secRead (sectEnc s ++ r) = (s, ((sectEnc s).length : Int), true) := by
  have hl := sectHead_len h
  have e1 : fRead (sectEnc s ++ r) = (sectHead s, ((fEnc (sectHead s)).length : Int), 0) := by
    unfold sectEnc; rw [List.append_assoc]; exact fRead_there (by omega) _
  have e2 := headS_there h
  have e3 : (sectEnc s ++ r).drop (fEnc (sectHead s)).length = cFrames s.2.2 ++ r := by unfold sectEnc; rw [List.append_assoc, List.drop_left]
  have e4 := comGo_there (acc := []) (sect_commits h) e3
  rw [sec_yes (cs := s.2.2) (a := ((sectEnc s).length : Int)) (by rw [e1]; simp) (by rw [e1, e2]; simp) (by rw [e1, e2]; dsimp only; rw [Int.toNat_natCast, e4]; simp [sectEnc]), e1, e2]
  dsimp only
  rw [decide_eq_true h]
theorem secRead_back {b : Bytes} (h : (secRead b).2.2 = true) : sectCheck (secRead b).1 = 0 ∧ b = sectEnc (secRead b).1 ++ b.drop (secRead b).2.1.toNat ∧ (secRead b).2.1 = ((sectEnc (secRead b).1).length : Int) := by
  by_cases h1 : (fRead b).2.2 = 0
  · by_cases h2 : (headS (fRead b).1).2.2 = false
    · rw [sec_no2 h2] at h; cases h
    · cases hc : comGo (headS (fRead b).1).2.1.toNat b [] (fRead b).2.1 with
      | none => rw [sec_no3 (by simpa using h1) h2 hc] at h; cases h
      | some p =>
        obtain ⟨cs, a⟩ := p
        have hf := fRead_bounds b
        have hh := headS_range (fRead b).1
        obtain ⟨f1, f2, f3⟩ := fRead_back h1
        rw [f2] at hc
        obtain ⟨l, j1, j2, j3, j4, j5⟩ := comGo_back (by omega) hc
        rw [List.nil_append] at j1; subst j1
        have hb := headS_back (by simpa using h2)
        have e0 := sec_yes (by simpa using h1) h2 (by rw [f2]; exact hc)
        rw [e0] at h ⊢
        have hs : sectCheck ((headS (fRead b).1).1.1, (headS (fRead b).1).1.2.1, cs) = 0 := of_decide_eq_true h
        have eh : sectHead ((headS (fRead b).1).1.1, (headS (fRead b).1).1.2.1, cs) = (fRead b).1 := by
          unfold sectHead
          dsimp only
          rw [j2]; exact hb.symm
        refine ⟨hs, ?_, ?_⟩
        · dsimp only [sectEnc]
          rw [eh, List.append_assoc, ← j4]
          rw [f2, Int.toNat_natCast] at f1
          exact f1
        · dsimp only [sectEnc]
          rw [eh, j5]; simp
  · rw [sec_no1 h1] at h; cases h
def scanS : Nat → Bytes → List DSection → Int → Int → List DSection × Int
  | 0, _, out, a, _ => (out, a)
  | k + 1, B, out, a, ep => if (secRead (B.drop a.toNat)).2.2 = false ∨ (secRead (B.drop a.toNat)).1.1 ≤ ep then (out, a) else scanS k B (out ++ [(secRead (B.drop a.toNat)).1]) (a + (secRead (B.drop a.toNat)).2.1) (secRead (B.drop a.toNat)).1.1
def scanF (B : Bytes) : List DSection × Int := scanS B.length B [] 0 0
section
variable {B : Bytes} {k : Nat} {out : List DSection} {a ep : Int} {p : List DSection × Int}
theorem scan_end (hp : p = scanS k B out a ep) (h : (secRead (B.drop a.toNat)).2.2 = false ∨ (secRead (B.drop a.toNat)).1.1 ≤ ep) : p = (out, a) := by
  rw [hp]; cases k with
  | zero => rfl
  | succ k => exact if_pos h
theorem scan_next (hp : p = scanS k B out a ep) (ha : 0 ≤ a) (hk : (B.length : Int) - a ≤ k) (h : ¬ (secRead (B.drop a.toNat)).2.2 = false) (h2 : ¬ (secRead (B.drop a.toNat)).1.1 ≤ ep) :
    p = scanS (k - 1) B (out ++ [(secRead (B.drop a.toNat)).1]) (a + (secRead (B.drop a.toNat)).2.1) (secRead (B.drop a.toNat)).1.1 := by
  rw [hp]; cases k with
  | zero =>
    exfalso
    have := secRead_bounds (B.drop a.toNat)
    have h3 := this.2.2.1 (by simpa using h)
    simp only [List.length_drop] at this
    omega
  | succ k => rw [scanS, if_neg (fun q => q.elim h h2)]; rfl
theorem sec_at (B : Bytes) {a : Int} (h : 0 ≤ a) (h2 : a ≤ B.length) : 0 ≤ (secRead (B.drop a.toNat)).2.1 ∧ a + (secRead (B.drop a.toNat)).2.1 ≤ B.length := by
  have := secRead_bounds (B.drop a.toNat)
  simp only [List.length_drop] at this
  omega
end
theorem scanS_bounds {B : Bytes} : ∀ {k : Nat} {out : List DSection} {a ep : Int}, 0 ≤ a → a ≤ B.length → a ≤ (scanS k B out a ep).2 ∧ (scanS k B out a ep).2 ≤ B.length ∧ (scanS k B out a ep).1.length ≤ out.length + k ∧ ((∀ s ∈ out, sectCheck s = 0) → ∀ s ∈ (scanS k B out a ep).1, sectCheck s = 0)
  | 0, out, a, ep, h, h2 => ⟨Int.le_refl _, h2, Nat.le_refl _, fun h => h⟩
  | k + 1, out, a, ep, h, h2 => by
    unfold scanS
    split
    · exact ⟨Int.le_refl _, h2, by dsimp only; omega, fun h => h⟩
    · rename_i h3
      have hb := sec_at B h h2
      have ih := scanS_bounds (k := k) (out := out ++ [(secRead (B.drop a.toNat)).1]) (ep := (secRead (B.drop a.toNat)).1.1) (a := a + (secRead (B.drop a.toNat)).2.1) (by omega) hb.2
      simp only [List.length_append, List.length_cons, List.length_nil] at ih
      refine ⟨by omega, ih.2.1, by omega, fun hs => ih.2.2.2 fun s hs2 => ?_⟩
      rcases List.mem_append.1 hs2 with q | q
      · exact hs s q
      · simp only [List.mem_cons, List.not_mem_nil, or_false] at q; subst q
        exact ((secRead_bounds (B.drop a.toNat)).2.2.1 (by simpa using fun q => h3 (.inl q))).2
theorem scanF_bounds (B : Bytes) : 0 ≤ (scanF B).2 ∧ (scanF B).2 ≤ B.length ∧ (scanF B).1.length ≤ B.length ∧ ∀ s ∈ (scanF B).1, sectCheck s = 0 := by
  have := scanS_bounds (B := B) (k := B.length) (out := []) (a := 0) (ep := 0) (Int.le_refl _) (by omega)
  exact ⟨this.1, this.2.1, by have h := this.2.2.1; rw [List.length_nil, Nat.zero_add] at h; exact h, this.2.2.2 fun _ h => by cases h⟩
def lastEp (ep : Int) (l : List DSection) : Int := match l.getLast? with
  | some s => s.1
  | none => ep
theorem lastEp_at {l : List DSection} {k : Nat} {x : DSection} {ep : Int} (hx : l[k]? = some x) (h0 : k + 1 = l.length) : lastEp ep l = x.1 := by
  unfold lastEp; rw [List.getLast?_eq_getElem?, show l.length - 1 = k by omega, hx]
theorem lastEp_nil {l : List DSection} {ep : Int} (h0 : l.length = 0) : lastEp ep l = ep := by rw [List.eq_nil_of_length_eq_zero h0]; rfl
theorem lastEp_snoc {l : List DSection} {x : DSection} {ep : Int} : lastEp ep (l ++ [x]) = x.1 := by unfold lastEp; rw [List.getLast?_append]; rfl
/-- is a commit in one of the sections? -/
def hasS (l : List DSection) (e n : Int) : Bool := l.any fun s => s.2.2.any fun c => decide (c.1 = e ∧ c.2.1 = n)
theorem any_yes {α : Type} {l : List α} {f : α → Bool} {k : Nat} {x : α} (hx : l[k]? = some x) (h : f x = true) : l.any f = true := List.any_eq_true.2 ⟨x, List.mem_of_getElem? hx, h⟩
theorem any_next {α : Type} {l : List α} {f : α → Bool} {k : Nat} {x : α} (h : (l.take k).any f = false) (hx : l[k]? = some x) (hf : f x = false) : (l.take (k + 1)).any f = false := by
  rw [take_one hx, List.any_append, h]; simp [hf]
theorem any_end {α : Type} {l : List α} {f : α → Bool} {k : Nat} (h : (l.take k).any f = false) (hk : ¬ (k : Int) < l.length) : l.any f = false := by
  rwa [List.take_of_length_le (by omega)] at h
theorem len_at {l : List DSection} {k : Nat} {x : DSection} (hx : l[k]? = some x) : ((l[k]?.map fun s => s.2.2.length).getD 0) = x.2.2.length := by rw [hx]; rfl
theorem has_yes {l : List DSection} {k j : Nat} {s : DSection} {c : DCommit} {e n : Int} (hx : l[k]? = some s) (hc : s.2.2[j]? = some c) (h1 : c.1 = e) (h2 : c.2.1 = n) : hasS l e n = true :=
  any_yes hx (any_yes hc (decide_eq_true ⟨h1, h2⟩))
theorem has_end {l : List DSection} {k : Nat} {e n : Int} (h : (l.take k).any (fun s => s.2.2.any fun c => decide (c.1 = e ∧ c.2.1 = n)) = false) (hk : ¬ (k : Int) < l.length) : hasS l e n = false := any_end h hk
section
variable {s : DSection} {b : Bytes} {k : Nat} {x : DCommit}
theorem senc_headA (h : sectCheck s = 0) : fAppend [] (venc s.1.toNat ++ venc s.2.1.toNat ++ venc s.2.2.length) = (fEnc (sectHead s), 0) := by
  have h1 := sectHead_len h
  have e : venc s.1.toNat ++ venc s.2.1.toNat ++ venc s.2.2.length = sectHead s := List.append_assoc ..
  rw [e, fAppend_good (by omega)]; rfl
theorem senc_head0 (h : sectCheck s = 0) : (fAppend [] (venc s.1.toNat ++ venc s.2.1.toNat ++ venc s.2.2.length)).2 = 0 := by rw [senc_headA h]
theorem senc_head1 (h : sectCheck s = 0) : (fAppend [] (venc s.1.toNat ++ venc s.2.1.toNat ++ venc s.2.2.length)).1 ++ cFrames (s.2.2.drop 0) = sectEnc s := by rw [senc_headA h]; rfl
theorem senc_head2 (h : sectCheck s = 0) : (fAppend [] (venc s.1.toNat ++ venc s.2.1.toNat ++ venc s.2.2.length)).1.length ≤ 40 + 710 * 0 := by
  have h1 := sectHead_len h
  have := fEnc_len (r := sectHead s) (by omega)
  rw [senc_headA h]; dsimp only; omega
theorem senc_one (h : sectCheck s = 0) (hx : s.2.2[k]? = some x) : cCheck x = 0 ∧ fAppend b (cEncode x).1 = (b ++ cFrame x, 0) := by
  have h1 := sect_commits h x (List.mem_of_getElem? hx)
  have h2 := cEnc_len h1
  refine ⟨h1, ?_⟩
  unfold cEncode; rw [if_pos h1]; dsimp only
  rw [fAppend_good (by omega)]; rfl
theorem senc_step0 (h : sectCheck s = 0) (hx : s.2.2[k]? = some x) : (fAppend b (cEncode x).1).2 = 0 := by rw [(senc_one h hx).2]
theorem senc_step1 (h : sectCheck s = 0) (hb : b ++ cFrames (s.2.2.drop k) = sectEnc s) (hx : s.2.2[k]? = some x) : (fAppend b (cEncode x).1).1 ++ cFrames (s.2.2.drop (k + 1)) = sectEnc s := by
  rw [(senc_one h hx).2, ← hb, drop_next hx, cFrames_cons, List.append_assoc]
theorem senc_step2 (h : sectCheck s = 0) (hl : b.length ≤ 40 + 710 * k) (hx : s.2.2[k]? = some x) : (fAppend b (cEncode x).1).1.length ≤ 40 + 710 * (k + 1) := by
  have := cFrame_len (senc_one (b := b) h hx).1
  rw [(senc_one h hx).2]; simp only [List.length_append]; omega
theorem senc_step3 (h : sectCheck s = 0) (hb : b ++ cFrames (s.2.2.drop k) = sectEnc s) (hx : s.2.2[k]? = some x) : b ++ frameC x ++ cFrames (s.2.2.drop (k + 1)) = sectEnc s := by
  rw [frameC_is (senc_one (b := b) h hx).1, ← hb, drop_next hx, cFrames_cons, List.append_assoc]
theorem senc_step4 (h : sectCheck s = 0) (hl : b.length ≤ 40 + 710 * k) (hx : s.2.2[k]? = some x) : (b ++ frameC x).length ≤ 40 + 710 * (k + 1) := by
  have := cFrame_len (senc_one (b := b) h hx).1
  rw [frameC_is (senc_one (b := b) h hx).1]; simp only [List.length_append]; omega
end
end
section
section
variable {P : Program} {n : Nat} {w0 : World} {σ : Env} {Ω ΩS : Ctx} {ops : Array Oper} {K : Env → Ctx → Prop}
theorem VD.store {tt q : Nat} {ss : List (Nat × Bool)} {ty : TypeId} {pos : String} {af : Array Edge} {t : TypeId} {x y : Operand} {g off : Nat} {v : Value} {k : Nat} (i : Nat) {c : Array Value} {E : TypeId} {c' : List Value}
    (ho : ops[q]? = some ⟨none, .store t x y, ty, pos, af, none⟩)
    (hx : ev σ x = some (.pointer (some ⟨g, off, none⟩))) (hy : ev σ y = some v) (ht : tk P t = some (some k) ∨ (tk P t = some none ∧ k = 1)) (hk : Nat.beq v.cells.size k = true) (hn : nice v = true)
    (hm : cget Ω i = some (mone g (.cells c E (0, 0)))) (hl : Nat.ble (off + k) c.size = true) (hc : splice c.toList off v.cells.toList = c')
    (hS : ∀ W, Inv w0 (cset Ω i (mone g (.cells c'.toArray E (0, 0)))) W → Inv w0 ΩS W)
    (h : VD P n w0 ops ΩS tt ss σ (cset Ω i (mone g (.cells c'.toArray E (0, 0)))) K) : VD P n w0 ops ΩS tt ((q, false) :: ss) σ Ω K :=
  VD.s (fun _ => σ) ho (fun _ _ he => he) (.inl rfl) (Stp.store i hx hy ht hk hn hm (mone_self _ _) hl) (fun _ _ ⟨_, hΩ⟩ W hW => hS W (by rw [hΩ, mset_one, hc] at hW; exact hW)) (fun _ _ ⟨_, hΩ⟩ => by rw [hΩ, mset_one, hc]; exact h)
theorem VD.storeH {tt q : Nat} {ss : List (Nat × Bool)} {ty : TypeId} {pos : String} {af : Array Edge} {t : TypeId} {x y : Operand} {g off : Nat} {v : Value} {k : Nat} (i : Nat) {c : Array Value} {E : TypeId} {c' : List Value}
    (ho : ops[q]? = some ⟨none, .store t x y, ty, pos, af, none⟩)
    (hx : ev σ x = some (.pointer (some ⟨g, off, none⟩))) (hy : ev σ y = some v) (ht : tk P t = some (some k) ∨ (tk P t = some none ∧ k = 1)) (hk : Nat.beq v.cells.size k = true) (hn : nice v = true)
    (hm : cget Ω i = some (mone g (.cells c E (0, 0)))) (hl : Nat.ble (off + k) c.size = true) (hc : splice c.toList off v.cells.toList = c')
    (hS : ∀ W, Inv w0 (cset Ω i (mone g (.cells c'.toArray E (0, 0)))) W → Inv w0 (lowS ΩS) W)
    (h : VD P n w0 ops (lowS ΩS) tt ss σ (cset Ω i (mone g (.cells c'.toArray E (0, 0)))) K) : VD P n w0 ops ΩS tt ((q, false) :: ss) σ Ω K :=
  VD.sH (fun _ => σ) ho (fun _ _ he => he) rfl (by unfold isSt; rw [ho]) (Stp.store i hx hy ht hk hn hm (mone_self _ _) hl) (fun _ _ ⟨_, hΩ⟩ W hW => hS W (by rw [hΩ, mset_one, hc] at hW; exact hW)) (fun _ _ ⟨_, hΩ⟩ => by rw [hΩ, mset_one, hc]; exact h)
end
/-- what a slice of one's own was, is still to be read -/
def KeptA (sz : Nat) (m : Mem) (v : Value) (len : Nat) (cs : List Value) : Prop := ∃ A cap, v = .slice A len cap ∧ len ≤ cap ∧ cap ≤ maxLen ∧ ((len = 0 ∧ cs = []) ∨ ∃ g off, A = some ⟨g, off, none⟩ ∧ cellsAt m g off (len * sz) cs)
section
variable {P : Program} {n : Nat} {w0 : World} {σ : Env} {Ω ΩS : Ctx} {ops : Array Oper} {K : Env → Ctx → Prop}
variable {ty : TypeId} {pos : String} {af : Array Edge} {d : Option Tmp} {gd : Option (Nat × Bool)} {r : List Oper}
theorem Stp.appK {s x : Operand} {t xt e : TypeId} {sz b len k : Nat} {v xv : Value} {cs xs z : List Value} (i : Nat) {m m0 : Mem} (hsv : ev σ s = some v) (hxv : ev σ x = some xv) (ht : tsl P t = some (e, sz, b)) (hz : tz P e = some z) (hzl : z.length = sz)
    (hm : cget Ω i = some m) (hm0 : mle m0 m) (hown : OwnA sz m0 v len cs) (hs' : Src P Ω sz xt xv k xs) (h1 : ∀ u ∈ xs, u.oneCell' = true) (hml : len + k ≤ maxLen) (hb : (len + k) * b ≤ 140737488355328) (hb0 : b ≠ 0) :
    Stp P n w0 σ Ω ⟨d, .call { callee := .builtin .append, args := [s, x].toArray, argTypes := [t, xt].toArray }, ty, pos, af, gd⟩ (fun v' Ω' => ∃ m' mo, mle mo m' ∧ OwnA sz mo v' (len + k) (cs ++ xs) ∧ KeptA sz m' v len cs ∧ Ω' = cset Ω i m') := fun a W he hi K' Q hK => by
  have hs : SrcW P W sz xt xv k xs := hs'.w hi
  have hex : ∀ (res : Value) (W' : World), (Builtin.append_ #[t, xt] ty #[v, xv]).run P W = .ok res W' → (execOp a.eval ⟨d, .call { callee := .builtin .append, args := [s, x].toArray, argTypes := [t, xt].toArray }, ty, pos, af, gd⟩).run P W = .ok (.value res) W' := by
    intro res W' h
    simp [execOp, resolve, invoke, builtin, he.eval hsv, he.eval hxv, h]
  have grow : ∀ (A : Option Addr) (cap : Nat), v = .slice A len cap → (∀ W', W'.heap = W.heap → (Builtin.firstCells sz len (.slice A len cap)).run P W' = .ok cs.toArray W') → cap < len + k → KeptA sz m0 v len cs →
      (⟨d, .call { callee := .builtin .append, args := [s, x].toArray, argTypes := [t, xt].toArray }, ty, pos, af, gd⟩ : Oper).wp P a W K' Q := by
    intro A cap hv hold hgt hkp
    subst hv
    obtain ⟨ncap, rest, hn1, hn2, hr, hrun⟩ := append_grow ht hz hs ty hold hgt hml hb hb0
    unfold Oper.wp
    rw [hex _ _ hrun]
    have hl1 := hown.len_eq
    have hl2 := hs.len
    have hnew : ∀ q o, m0 q = some o → q ≠ W.heap.size := fun q o hq hqq => by
      subst hqq
      have := hi.at hm _ o (hm0 _ o hq)
      unfold wm at this
      simp at this
    have hdj : mdj m0 (mone W.heap.size (.cells (cs ++ xs ++ rest).toArray e (0, 0))) := fun q => by
      by_cases hq : q = W.heap.size
      · left
        cases hmq : m0 q with
        | none => rfl
        | some o => exact absurd hq (hnew q o hmq)
      · exact .inr (mone_ne _ hq)
    refine hK _ _ _ ⟨mun m0 (mone W.heap.size (.cells (cs ++ xs ++ rest).toArray e (0, 0))), mone W.heap.size (.cells (cs ++ xs ++ rest).toArray e (0, 0)), mle_un_right hdj, ?_, ?_, rfl⟩ (hi.set hm rfl rfl rfl (by simp) ?_ (mun_le (fun q o hq => ?_) (mone_le ?_)) fun g => ?_)
    · have hlen : (cs ++ xs ++ rest).length = ncap * sz := by
        simp only [List.length_append, hl1, hl2, hr, hzl, ← Nat.add_mul]
        congr 1; omega
      have := OwnA.row (sz := sz) W.heap.size 0 (len + k) ncap e (cs ++ xs ++ rest) (by rw [hlen]; omega) hn1 hn2
      rw [List.drop_zero, List.take_append_of_le_length (by simp [hl1, hl2, Nat.add_mul]), List.take_of_length_le (by simp [hl1, hl2, Nat.add_mul])] at this
      exact this
    · obtain ⟨A', c', e1, e2, e3, e4⟩ := hkp
      exact ⟨A', c', e1, e2, e3, e4.imp id fun ⟨g, off, q1, q2⟩ => ⟨g, off, q1, q2.mono (mle_un_left _ _)⟩⟩
    · exact (mout_le _ _).trans (wm_alloc W.drew _)
    · exact wm_alloc W.drew _ q o (hi.at hm q o (hm0 q o hq))
    · exact wm_alloc_new W.drew _
    · by_cases hg : g = W.heap.size
      · exact .inr (.inr (Nat.le_of_eq hg.symm))
      · cases hmg : m0 g with
        | none => left; unfold mun; rw [hmg]; exact mone_ne _ hg
        | some o => right; left; rw [hm0 g o hmg]; simp
  cases hown with
  | nil A =>
    by_cases hk : k = 0
    · subst hk
      have hx : xs = [] := List.eq_nil_of_length_eq_zero (by simpa using hs.len)
      subst hx
      unfold Oper.wp
      rw [hex (.slice A 0 0) W (by rw [append_eq ht hs ty (by omega)]; cases A <;> rfl)]
      exact hK _ _ _ ⟨mnil, mnil, mle_refl _, .nil A, ⟨A, 0, rfl, Nat.le_refl _, Nat.zero_le _, .inl ⟨rfl, rfl⟩⟩, rfl⟩ (hi.set hm rfl rfl rfl (Nat.le_refl _) (mout_le _ _) (mle_nil _) fun g => .inl rfl)
    · exact grow A 0 rfl (fun W' _ => by cases A <;> simp [Builtin.firstCells, loadCells, loadCellsFrom]) (by omega) ⟨A, 0, rfl, Nat.le_refl _, Nat.zero_le _, .inl ⟨rfl, rfl⟩⟩
  | row g off len cap E c h1' h2' h3' =>
    have hmul0 := Nat.mul_le_mul_right sz h2'
    have kept0 : ∀ c2 : List Value, c2.length = c.length → (c2.drop off).take (len * sz) = (c.drop off).take (len * sz) → KeptA sz (mone g (.cells c2.toArray E (0, 0))) (.slice (some ⟨g, off, none⟩) len cap) len ((c.drop off).take (len * sz)) := fun c2 hl hc =>
      ⟨_, _, rfl, h2', h3', .inr ⟨g, off, rfl, c2.toArray, E, (0, 0), mone_self _ _, by simp; omega, by simp [hc]⟩⟩
    by_cases hle : len + k ≤ cap
    · have hg := hi.at hm g _ (hm0 g _ (mone_self _ _))
      have hmul := Nat.mul_le_mul_right sz hle
      have hl2 := hs.len
      obtain ⟨W', hrun, ho, htp, hu, hsz, hfar, hgg⟩ := setCells_heap (P := P) xs W g (off + len * sz) c.toArray E (0, 0) hg (by simp [hl2]; rw [Nat.add_mul] at hmul; omega) (Nat.le_refl _) h1 0 (off + len * sz) rfl
      unfold Oper.wp
      rw [hex (.slice (some ⟨g, off, none⟩) (len + k) cap) W' (by rw [append_eq ht hs ty hle]; simp only [add_off, hrun]; rfl)]
      have hsl : splice c (off + len * sz) xs = c.take (off + len * sz) ++ (xs ++ c.drop (off + len * sz + xs.length)) := rfl
      have hlc : (splice c (off + len * sz) xs).length = c.length := by rw [hsl]; simp [hl2]; rw [Nat.add_mul] at hmul; omega
      have e0 : List.drop off (splice c (off + len * sz) xs) = List.take (len * sz) (List.drop off c) ++ (xs ++ c.drop (off + len * sz + xs.length)) := by
        rw [hsl, List.drop_append_of_le_length (by simp; rw [Nat.add_mul] at hmul; omega)]
        congr 1
        rw [List.drop_take]; congr 1; omega
      refine hK _ _ _ ⟨mone g (.cells (splice c (off + len * sz) xs).toArray E (0, 0)), mone g (.cells (splice c (off + len * sz) xs).toArray E (0, 0)), mle_refl _, ?_, kept0 _ hlc ?_, rfl⟩ (hi.set hm ho htp hu (Nat.le_of_eq hsz.symm) ?_ (mone_le hgg) fun g' => ?_)
      · have := OwnA.row (sz := sz) g off (len + k) cap E (splice c (off + len * sz) xs) (by rw [hlc]; exact h1') hle h3'
        have e1 : List.take ((len + k) * sz) (List.drop off (splice c (off + len * sz) xs)) = List.take (len * sz) (List.drop off c) ++ xs := by
          rw [e0, ← List.append_assoc]
          have e3 : (List.take (len * sz) (List.drop off c) ++ xs).length = (len + k) * sz := by
            rw [Nat.add_mul] at hmul ⊢
            simp [hl2]; omega
          rw [← e3]
          exact List.take_left
        rw [e1] at this
        exact this
      · rw [e0]
        have e3 : (List.take (len * sz) (List.drop off c)).length = len * sz := by simp; omega
        rw [List.take_append_of_le_length (by omega), List.take_of_length_le (by omega)]
      · intro q o h
        unfold mout at h
        split at h
        · cases h
        · rename_i hn
          have hne : q ≠ g := by rintro rfl; rw [hm0 _ _ (mone_self _ _)] at hn; cases hn
          unfold wm at h ⊢
          rw [hfar q hne]; exact h
      · by_cases hgg' : g' = g
        · subst hgg'; right; left; rw [hm0 _ _ (mone_self _ _)]; simp
        · exact .inl (mone_ne _ hgg')
    · refine grow (some ⟨g, off, none⟩) cap rfl (fun W' hW' => ?_) (by omega) (kept0 c rfl rfl)
      have hg := hi.at hm g _ (hm0 g _ (mone_self _ _))
      have hmul := Nat.mul_le_mul_right sz h2'
      refine run_loadCells' ⟨c.toArray, E, (0, 0), ?_, by simp; omega, rfl⟩
      unfold wm at hg ⊢
      rw [hW']; exact hg
theorem VO.appK {s x : Operand} {t xt e : TypeId} {sz b len k dd : Nat} {v xv : Value} {cs xs z : List Value} (i : Nat) {m m0 : Mem} (hd : Nat.blt dd n = true) (hsv : ev σ s = some v) (hxv : ev σ x = some xv) (ht : tsl P t = some (e, sz, b)) (hz : tz P e = some z) (hzl : z.length = sz)
    (hm : cget Ω i = some m) (hm0 : mle m0 m) (hown : OwnA sz m0 v len cs) (hs : Src P Ω sz xt xv k xs) (h1 : ∀ u ∈ xs, u.oneCell' = true) (hml : len + k ≤ maxLen) (hb : (len + k) * b ≤ 140737488355328) (hb0 : b ≠ 0)
    (h : ∀ v' m' mo, mle mo m' → OwnA sz mo v' (len + k) (cs ++ xs) → KeptA sz m' v len cs → VO P n w0 ops r ((dd, v') :: σ) (cset Ω i m') K) :
    VO P n w0 ops (⟨some dd, .call { callee := .builtin .append, args := [s, x].toArray, argTypes := [t, xt].toArray }, ty, pos, af, none⟩ :: r) σ Ω K :=
  VO.s hd (Stp.appK i hsv hxv ht hz hzl hm hm0 hown hs h1 hml hb hb0) fun v' _ ⟨m', mo, h0, hp, hk, hΩ⟩ => hΩ ▸ h v' m' mo h0 hp hk
end
theorem KeptA.rd {e : Ty} {m : Mem} {A : Option Addr} {c : Nat} {cs : List Value} {xs : List e.Den} (h : KeptA e.sz m (.slice A xs.length c) xs.length cs) (hc : All2c (Rd e m) cs xs) : Rd (.sl e) m [.slice A xs.length c] xs := by
  obtain ⟨A', c', h1, h2, h3, h4⟩ := h
  simp only [Value.slice.injEq, true_and] at h1
  obtain ⟨rfl, rfl⟩ := h1
  refine ⟨_, _, rfl, h2, h3, ?_⟩
  rcases h4 with ⟨h4, _⟩ | ⟨g, off, h4, h5⟩
  · exact .inl h4
  · exact .inr ⟨g, off, cs, h4, h5, hc⟩
end
end Go.Proofs.Ytbjkfnnabnacfaa
