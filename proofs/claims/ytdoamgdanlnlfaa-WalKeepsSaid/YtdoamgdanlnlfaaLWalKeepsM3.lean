/- Part 3 of the proof of LWalKeeps: what it needs of the library, the walks and the plain laws. Conditions: those named in each theorem. -/
import Derived.Test.YtdoamgdanlnlfaaLWalKeepsM2
namespace Go.Proofs.Ytdoamgdanlnlfaa
section
set_option linter.unusedVariables false
set_option linter.unusedSimpArgs false
set_option maxRecDepth 4000
theorem fnOk81 : fnOk Try.prog 81 = true := by kernel_rfl
theorem fnOk87 : fnOk Try.prog 87 = true := by kernel_rfl
theorem fin0_cEncode_ok_ {P : Prop} (h : P := by first | omega | (simp only [List.length_append, List.length_nil, List.length_cons, List.length_take, List.length_drop] at *; omega) | (have h_ := cCheck_zero (Decidable.not_not.1 ‹¬ ¬ cCheck d0 = 0›); omega) | (have h_ := cCheck_zero (Decidable.not_not.1 ‹¬ ¬ cCheck d0 = 0›); simp only [List.length_append, List.length_nil, List.length_cons] at *; omega)) : P := h
theorem cEncode_ok_ (W : World) {v0 : List Value} {d0 : DCommit} (h0 : Rd TCommit (wm W) v0 d0) : CallR Try.prog 53 [.agg v0.toArray] W (mnil) (fun v m' => ∃ (s0 : Value), v = .tuple #[s0, .int .i64 ((cEncode d0).2)] ∧ Ow (.sl .byte) m' [s0] ((cEncode d0).1)) := by
  obtain ⟨p0_A2, p0_c2, rfl, p0_0, p0_1, p0_2⟩ := open_Commit (x0 := d0.1) (x1 := d0.2.1) (x2 := d0.2.2) h0
  simp only [inK] at p0_0
  simp only [inK] at p0_1
  have p0_r2 := Rd.room p0_2
  refine CallR.ofA (n := 23) Try.func53 rfl rfl rfl ?_
  refine VC.rs ?_
  refine VO.box (cs := [Value.int .i64 (d0.1), Value.int .i64 (d0.2.1), Value.slice p0_A2 (d0.2.2.length) (p0_c2)]) 102 rfl rfl rfl (fun g1 => ?_)
  refine VO.as ?_
  refine VO.as ?_
  refine VO.k4 0 1 2 3 ?_
  refine VC.seq ?_
  refine VC.rs ?_
  refine VO.y rfl (.ldA 102 rfl tk42 rfl (cellsAt_one rfl rfl)) ?_
  refine VO.callN 103 rfl fnOk80 rfl (fun W hW => cCheck_ok_ W (Rd.mono h0 (hW.at (i := 0) rfl))) (fun v3 m3 hv3 => ?_)
  subst hv3
  have hfa4 := cCheck_range d0
  refine VO.as ?_
  refine VO.k5 0 1 2 3 4 ?_
  refine VC.rs ?_
  refine VO.mv ?_
  refine VO.y rfl (.neq rfl rfl) ?_
  refine VO.kp [102, 0] [(102, mone g1 (.cells [Value.int .i64 (d0.1), Value.int .i64 (d0.2.1), Value.slice p0_A2 (d0.2.2.length) (p0_c2)].toArray 42 (0, 0))), (0, wm W)] ?_
  refine VO.k6 0 1 2 3 4 8 ?_
  refine VC.cond rfl (fun hc5 => ?_) (fun hc5 => ?_)
  · -- T
    refine VC.rs ?_
    refine VO.mv ?_
    refine VO.as ?_
    refine VO.as ?_
    refine VO.k6 0 1 2 3 4 8 ?_
    refine VC.ret ?_
    refine outR ?_
    refine ⟨_, _, res_run (rs := [.tmp 2, .tmp 3]) rfl (.tmp rfl (.tmp rfl .nil)), fun W_ hI => out_of (l := []) hI [] rfl rfl (mle_refl _) (fun hS_ => ?_)⟩
    dsimp only [packV]
    have he0 : ((cEncode d0).1 : Ty.Den (.sl .byte)) = [] := by first | rfl | (first | (rw [cEncode_bad (by assumption)]; done) | (rw [cEncode_good (by assumption)]; done))
    refine ⟨Value.slice none (0) (0), ?_, ?_⟩
    rotate_left
    · rw [he0]; exact (Ow.nil _ _)
    all_goals (first | rfl | (first | (rw [cEncode_bad (by assumption)] <;> rfl) | (rw [cEncode_good (by assumption)] <;> rfl)))
  · -- F
    refine VC.skip ?_
    refine outN ?_
    refine VC.seq ?_
    refine VC.regD _ 13 [(0, true), (1, true), (2, true), (4, true), (5, true), (6, true), (8, true), (9, true), (3, false), (7, false), (10, false), (11, true), (12, true)] follows (by kernel_rfl) (fun _ h => h.sub [102, 0]) ?_
    refine VD.y rfl rfl (.inl rfl) (.fa rfl tst42 rfl) ?_
    refine VD.y rfl rfl (.inl rfl) (.ld1 102 rfl tk3 rfl (cellsAt_one rfl rfl)) ?_
    refine VD.y rfl rfl (.inl rfl) (.cvI (c := ((d0.1).toNat : Int)) rfl ⟨_, Try.underlying3⟩ Try.underlying117 (by rw [IntWalk.u64_in _ (by exact fin0_cEncode_ok_)]; first | omega | (exact fin0_cEncode_ok_))) ?_
    refine VD.y rfl rfl (.inl rfl) (.fa rfl tst42 rfl) ?_
    refine VD.y rfl rfl (.inl rfl) (.ld1 102 rfl tk3 rfl (cellsAt_one rfl rfl)) ?_
    refine VD.y rfl rfl (.inl rfl) (.cvI (c := ((d0.2.1).toNat : Int)) rfl ⟨_, Try.underlying3⟩ Try.underlying117 (by rw [IntWalk.u64_in _ (by exact fin0_cEncode_ok_)]; first | omega | (exact fin0_cEncode_ok_))) ?_
    refine VD.y rfl rfl (.inl rfl) (.fa rfl tst42 rfl) ?_
    refine VD.y rfl rfl (.inl rfl) (.ld1 102 rfl tk40 rfl (cellsAt_one rfl rfl)) ?_
    refine VD.callN 106 rfl rfl (.inl rfl) fnOk82 rfl (fun _ h => h.sub [102, 0]) (fun W hW => vAppend_ok W (Rd.nil _ _ none 0 (Nat.zero_le _)) ((d0.1).toNat) (by exact fin0_cEncode_ok_) (by exact fin0_cEncode_ok_)) (fun v6 m6 hv6 => ?_)
    obtain ⟨s6_0, rfl, f6_0⟩ := hv6
    have hfa7 := venc_len (x := ((d0.1).toNat)) (by first | omega | exact or64 (by assumption) _)
    simp only [List.nil_append] at f6_0
    obtain ⟨A6_0, c6_0, eq6_0, l6_0, k6_0⟩ := f6_0.slice
    subst eq6_0
    simp only [maxLen] at k6_0
    refine VD.callN 108 rfl rfl (.inl rfl) fnOk82 rfl (fun _ h => h.sub [102, 0]) (fun W hW => vAppend_ok W (OwnL.rd (Ow.ownl f6_0 rfl mnil) (hW.at (i := 106) rfl) (mle_nil _)) ((d0.2.1).toNat) (by exact fin0_cEncode_ok_) (by exact fin0_cEncode_ok_)) (fun v8 m8 hv8 => ?_)
    obtain ⟨s8_0, rfl, f8_0⟩ := hv8
    have hfa9 := venc_len (x := ((d0.2.1).toNat)) (by first | omega | exact or64 (by assumption) _)
    obtain ⟨A8_0, c8_0, eq8_0, l8_0, k8_0⟩ := f8_0.slice
    subst eq8_0
    simp only [maxLen] at k8_0
    refine VD.callN 110 rfl rfl (.inl rfl) fnOk81 rfl (fun _ h => h.sub [102, 0]) (fun W hW => bAppend_ok W (OwnL.rd (Ow.ownl f8_0 rfl mnil) (hW.at (i := 108) rfl) (mle_nil _)) (Rd.mono p0_2 (hW.at (i := 0) rfl)) (by exact fin0_cEncode_ok_)) (fun v10 m10 hv10 => ?_)
    obtain ⟨s10_0, rfl, f10_0⟩ := hv10
    have hfa11 := bAppend_len ((venc ((d0.1).toNat)) ++ venc ((d0.2.1).toNat)) d0.2.2
    obtain ⟨A10_0, c10_0, eq10_0, l10_0, k10_0⟩ := f10_0.slice
    subst eq10_0
    simp only [maxLen] at k10_0
    refine VD.y rfl rfl (.inl rfl) (.ext rfl rfl) ?_
    refine VD.y rfl rfl (.inl rfl) (.ext rfl rfl) ?_
    refine VD.nil rfl ?_ rfl
    refine VO.as ?_
    refine VO.as ?_
    refine VO.k6 0 1 2 3 4 8 ?_
    refine outN ?_
    refine VC.ret ?_
    refine ⟨_, _, res_run (rs := [.tmp 2, .tmp 3]) rfl (.tmp rfl (.tmp rfl .nil)), fun W_ hI => out_of (l := [m10]) hI [110] rfl rfl (mle_refl _) (fun hS_ => ?_)⟩
    dsimp only [packV]
    have he0 : ((cEncode d0).1 : Ty.Den (.sl .byte)) = (bAppend ((venc ((d0.1).toNat)) ++ venc ((d0.2.1).toNat)) d0.2.2).1 := by first | rfl | (first | (rw [cEncode_bad (by assumption)]; done) | (rw [cEncode_good (by assumption)]; done))
    refine ⟨Value.slice A10_0 (((bAppend ((venc ((d0.1).toNat)) ++ venc ((d0.2.1).toNat)) d0.2.2).1).length) (c10_0), ?_, ?_⟩
    rotate_left
    · rw [he0]; exact (Ow.up (OwnL.ow (Ow.ownl f10_0 rfl mnil) rfl) (hS_.1 _ (.head _)))
    all_goals (first | rfl | (first | (rw [cEncode_bad (by assumption)] <;> rfl) | (rw [cEncode_good (by assumption)] <;> rfl)))
theorem fin0_cDecode_ok_ {P : Prop} (h : P := by first | (rw [cDecode_e1 (by assumption)] <;> rfl) | (rw [cDecode_e2 (by assumption)] <;> rfl) | (rw [cDecode_e3 (by assumption)] <;> rfl) | (rw [cDecode_e4 (by assumption)] <;> rfl) | (rw [cDecode_e5 (by assumption)] <;> rfl) | (rw [cDecode_ok (by assumption) (by assumption) (by assumption) (by assumption) (by assumption)] <;> rfl)) : P := h
theorem cDecode_ok_ (W : World) {v0 : Value} {d0 : List UInt8} (h0 : Rd (.sl .byte) (wm W) [v0] d0) : CallR Try.prog 69 [v0] W (mnil) (fun v m' => ∃ (s0 : List Value), v = .tuple #[.agg s0.toArray, .int .i64 ((cDecode d0).2)] ∧ Ow TCommit m' s0 ((cDecode d0).1)) := by
  obtain ⟨A0, c0, rfl, l0, k0⟩ := h0.slice
  simp only [maxLen] at k0
  refine CallR.ofA (n := 65) Try.func69 rfl rfl rfl ?_
  refine VC.rs ?_
  refine VO.alloc 102 rfl tz42 (fun g1 => ?_)
  refine VO.as ?_
  refine VO.k3 0 2 3 ?_
  refine VC.rs ?_
  refine VO.mv ?_
  refine VO.callN 103 rfl fnOk86 rfl (fun W hW => vSmall_ok W (Rd.mono h0 (hW.at (i := 0) rfl)) 1048576 bdk) (fun v3 m3 hv3 => ?_)
  subst hv3
  have hfa4 := s_bounds d0 1048576 (by omega)
  refine VO.mv ?_
  refine VO.y rfl (.ext rfl rfl) ?_
  refine VO.y rfl (.ext rfl rfl) ?_
  refine VO.y rfl (.ext rfl rfl) ?_
  refine VO.as ?_
  refine VO.as ?_
  refine VO.as ?_
  refine VO.k6 0 2 3 4 5 6 ?_
  refine VC.seq ?_
  refine VC.rs ?_
  refine VO.mv ?_
  refine VO.y rfl (.neq rfl rfl) ?_
  refine VO.kp [102, 0] [(102, mone g1 (.cells [Value.int .i64 (0), Value.int .i64 (0), Value.slice none (0) (0)].toArray 42 (0, 0))), (0, wm W)] ?_
  refine VO.k7 0 2 3 4 5 6 19 ?_
  refine VC.cond rfl (fun hc5 => ?_) (fun hc5 => ?_)
  · -- T
    refine VC.rs ?_
    refine VO.y rfl (.bst (cs := [Value.int .i64 (0), Value.int .i64 (0), Value.slice none (0) (0)]) rfl tst42 tz42 rfl) ?_
    refine VO.store (k := 3) (c' := [Value.int .i64 (0), Value.int .i64 (0), Value.slice none (0) (0)]) 102 rfl rfl (.inl tk42) rfl rfl rfl rfl rfl ?_
    refine VO.as ?_
    refine VO.k7 0 2 3 4 5 6 19 ?_
    refine VC.ret ?_
    refine outR ?_
    refine ⟨_, _, res_run (rs := [.cell 2 42, .tmp 3]) rfl (.agg 102 rfl tk42 rfl ⟨_, _, _, mone_self _ _, Nat.le_of_ble_eq_true rfl, rfl⟩ (.tmp rfl .nil)), fun W_ hI => out_of (l := []) hI [] rfl rfl (mle_refl _) (fun hS_ => ?_)⟩
    dsimp only [packV]
    have he0 : ((cDecode d0).1 : Ty.Den TCommit) = (0, 0, []) := by first | rfl | (exact fin0_cDecode_ok_)
    refine ⟨[Value.int .i64 (0), Value.int .i64 (0), Value.slice none (0) (0)], ?_, ?_⟩
    rotate_left
    · rw [he0]; exact (mkO_Commit 0 0 [] (Seps.nilAt 0 hS_) bdk bdk (Ow.nil _ _))
    all_goals (first | rfl | (exact fin0_cDecode_ok_))
  · -- F
    refine VC.skip ?_
    refine outN ?_
    refine VC.rs ?_
    refine VO.mv ?_
    refine VO.mv ?_
    obtain ⟨A6, hA6, hs6⟩ := h0.drop 1 (sN d0 1048576) rfl bd
    refine VO.y rfl (.slLI (sN d0 1048576) A6 rfl rfl tsl22 rfl hA6 bd) ?_
    refine VO.callN 107 rfl fnOk86 rfl (fun W hW => vSmall_ok W (Rd.mono hs6 (hW.at (i := 0) rfl)) 1048576 bdk) (fun v7 m7 hv7 => ?_)
    subst hv7
    have hfa8 := s_bounds (d0.drop (sN d0 1048576)) 1048576 (by omega)
    refine VO.mv ?_
    refine VO.y rfl (.ext rfl rfl) ?_
    refine VO.y rfl (.ext rfl rfl) ?_
    refine VO.y rfl (.ext rfl rfl) ?_
    refine VO.as ?_
    refine VO.as ?_
    refine VO.as ?_
    refine VO.k9 0 2 3 4 5 6 7 8 19 ?_
    refine VC.seq ?_
    refine VC.rs ?_
    refine VO.mv ?_
    refine VO.y rfl (.neq rfl rfl) ?_
    refine VO.k10 0 2 3 4 5 6 7 8 19 30 ?_
    refine VC.cond rfl (fun hc9 => ?_) (fun hc9 => ?_)
    · -- FT
      refine VC.rs ?_
      refine VO.y rfl (.bst (cs := [Value.int .i64 (0), Value.int .i64 (0), Value.slice none (0) (0)]) rfl tst42 tz42 rfl) ?_
      refine VO.store (k := 3) (c' := [Value.int .i64 (0), Value.int .i64 (0), Value.slice none (0) (0)]) 102 rfl rfl (.inl tk42) rfl rfl rfl rfl rfl ?_
      refine VO.as ?_
      refine VO.kp [102, 0] [(102, mone g1 (.cells [Value.int .i64 (0), Value.int .i64 (0), Value.slice none (0) (0)].toArray 42 (0, 0))), (0, wm W)] ?_
      refine VO.k10 0 2 3 4 5 6 7 8 19 30 ?_
      refine VC.ret ?_
      refine outR ?_
      refine ⟨_, _, res_run (rs := [.cell 2 42, .tmp 3]) rfl (.agg 102 rfl tk42 rfl ⟨_, _, _, mone_self _ _, Nat.le_of_ble_eq_true rfl, rfl⟩ (.tmp rfl .nil)), fun W_ hI => out_of (l := []) hI [] rfl rfl (mle_refl _) (fun hS_ => ?_)⟩
      dsimp only [packV]
      have he0 : ((cDecode d0).1 : Ty.Den TCommit) = (0, 0, []) := by first | rfl | (exact fin0_cDecode_ok_)
      refine ⟨[Value.int .i64 (0), Value.int .i64 (0), Value.slice none (0) (0)], ?_, ?_⟩
      rotate_left
      · rw [he0]; exact (mkO_Commit 0 0 [] (Seps.nilAt 0 hS_) bdk bdk (Ow.nil _ _))
      all_goals (first | rfl | (exact fin0_cDecode_ok_))
    · -- FF
      refine VC.skip ?_
      refine outN ?_
      refine VC.rs ?_
      refine VO.mv ?_
      refine VO.mv ?_
      refine VO.mv ?_
      refine VO.y rfl (.add (c := ((sN d0 1048576 + (sN (d0.drop (sN d0 1048576)) 1048576) : Nat) : Int)) rfl rfl (by omega) ⟨bd, bd⟩) ?_
      obtain ⟨A10, hA10, hs10⟩ := h0.drop 1 (sN d0 1048576 + (sN (d0.drop (sN d0 1048576)) 1048576)) rfl bd
      refine VO.y rfl (.slLI (sN d0 1048576 + (sN (d0.drop (sN d0 1048576)) 1048576)) A10 rfl rfl tsl22 rfl hA10 bd) ?_
      refine VO.callN 111 rfl fnOk87 rfl (fun W hW => bRead_ok W (Rd.mono hs10 (hW.at (i := 0) rfl))) (fun v11 m11 hv11 => ?_)
      obtain ⟨s11_0, rfl, f11_0⟩ := hv11
      have hfa12 := bRead_fits (d0.drop (sN d0 1048576 + (sN (d0.drop (sN d0 1048576)) 1048576)))
      obtain ⟨A11_0, c11_0, eq11_0, l11_0, k11_0⟩ := f11_0.slice
      subst eq11_0
      simp only [maxLen] at k11_0
      refine VO.mv ?_
      refine VO.y rfl (.ext rfl rfl) ?_
      refine VO.y rfl (.ext rfl rfl) ?_
      refine VO.y rfl (.ext rfl rfl) ?_
      refine VO.as ?_
      refine VO.as ?_
      refine VO.as ?_
      refine VO.kp [111, 102, 0] [(111, m11), (102, mone g1 (.cells [Value.int .i64 (0), Value.int .i64 (0), Value.slice none (0) (0)].toArray 42 (0, 0))), (0, wm W)] ?_
      refine VO.k12 0 2 3 4 5 6 7 8 9 10 19 30 ?_
      refine VC.rs ?_
      refine VO.mv ?_
      refine VO.mv ?_
      refine VO.mv ?_
      refine VO.y rfl (.bst (cs := [Value.int .i64 (((sX d0 1048576 : Nat) : Int)), Value.int .i64 (((sX (d0.drop (sN d0 1048576)) 1048576 : Nat) : Int)), Value.slice A11_0 (((bRead (d0.drop (sN d0 1048576 + (sN (d0.drop (sN d0 1048576)) 1048576)))).1).length) (c11_0)]) rfl tst42 tz42 rfl) ?_
      refine VO.alloc 114 rfl tz42 (fun g13 => ?_)
      refine VO.store (k := 3) (c' := [Value.int .i64 (((sX d0 1048576 : Nat) : Int)), Value.int .i64 (((sX (d0.drop (sN d0 1048576)) 1048576 : Nat) : Int)), Value.slice A11_0 (((bRead (d0.drop (sN d0 1048576 + (sN (d0.drop (sN d0 1048576)) 1048576)))).1).length) (c11_0)]) 114 rfl rfl (.inl tk42) rfl rfl rfl rfl rfl ?_
      refine VO.k13 0 2 3 4 5 6 7 8 9 10 11 19 30 ?_
      refine VC.seq ?_
      refine VC.rs ?_
      refine VO.mv ?_
      refine VO.y rfl (.neq rfl rfl) ?_
      refine VO.mv ?_
      refine VO.dec (t := 48) rfl (fun hc15 => ?_) (fun hc15 => ?_)
      · -- FFT
        refine VO.gN ?_
        refine VO.gN ?_
        refine VO.gN ?_
        refine VO.gN ?_
        refine VO.gN ?_
        refine VO.gN ?_
        refine VO.gN ?_
        refine VO.gN ?_
        refine VO.y rfl (.pT rfl rfl) ?_
        refine VO.mv ?_
        refine VO.gN ?_
        refine VO.gN ?_
        refine VO.gN ?_
        refine VO.y rfl (.pT rfl rfl) ?_
        refine VO.k14 0 2 3 4 5 6 7 8 9 10 11 19 30 62 ?_
        refine VC.condT rfl ?_
        refine VC.rs ?_
        refine VO.y rfl (.bst (cs := [Value.int .i64 (0), Value.int .i64 (0), Value.slice none (0) (0)]) rfl tst42 tz42 rfl) ?_
        refine VO.store (k := 3) (c' := [Value.int .i64 (0), Value.int .i64 (0), Value.slice none (0) (0)]) 102 rfl rfl (.inl tk42) rfl rfl rfl rfl rfl ?_
        refine VO.as ?_
        refine VO.kp [114, 111, 102, 0] [(114, mone g13 (.cells [Value.int .i64 (((sX d0 1048576 : Nat) : Int)), Value.int .i64 (((sX (d0.drop (sN d0 1048576)) 1048576 : Nat) : Int)), Value.slice A11_0 (((bRead (d0.drop (sN d0 1048576 + (sN (d0.drop (sN d0 1048576)) 1048576)))).1).length) (c11_0)].toArray 42 (0, 0))), (111, m11), (102, mone g1 (.cells [Value.int .i64 (0), Value.int .i64 (0), Value.slice none (0) (0)].toArray 42 (0, 0))), (0, wm W)] ?_
        refine VO.k14 0 2 3 4 5 6 7 8 9 10 11 19 30 62 ?_
        refine VC.ret ?_
        refine outR ?_
        refine ⟨_, _, res_run (rs := [.cell 2 42, .tmp 3]) rfl (.agg 102 rfl tk42 rfl ⟨_, _, _, mone_self _ _, Nat.le_of_ble_eq_true rfl, rfl⟩ (.tmp rfl .nil)), fun W_ hI => out_of (l := []) hI [] rfl rfl (mle_refl _) (fun hS_ => ?_)⟩
        dsimp only [packV]
        have he0 : ((cDecode d0).1 : Ty.Den TCommit) = (0, 0, []) := by first | rfl | (exact fin0_cDecode_ok_)
        refine ⟨[Value.int .i64 (0), Value.int .i64 (0), Value.slice none (0) (0)], ?_, ?_⟩
        rotate_left
        · rw [he0]; exact (mkO_Commit 0 0 [] (Seps.nilAt 0 hS_) bdk bdk (Ow.nil _ _))
        all_goals (first | rfl | (exact fin0_cDecode_ok_))
      · -- FFF
        refine VO.gy rfl ⟨_, rfl, rfl⟩ (.mv rfl) ?_
        refine VO.gy rfl ⟨_, rfl, rfl⟩ (.mv rfl) ?_
        refine VO.gy rfl ⟨_, rfl, rfl⟩ (.add (c := ((sN d0 1048576 + (sN (d0.drop (sN d0 1048576)) 1048576) : Nat) : Int)) rfl rfl (by omega) ⟨bd, bd⟩) ?_
        refine VO.gy rfl ⟨_, rfl, rfl⟩ (.mv rfl) ?_
        refine VO.gy rfl ⟨_, rfl, rfl⟩ (.add rfl rfl rfl ⟨bd, bd⟩) ?_
        refine VO.gy rfl ⟨_, rfl, rfl⟩ (.mv rfl) ?_
        refine VO.gy rfl ⟨_, rfl, rfl⟩ (.lenS rfl tsl22) ?_
        refine VO.gy rfl ⟨_, rfl, rfl⟩ (.neq rfl rfl) ?_
        refine VO.y rfl (.pF rfl rfl) ?_
        refine VO.mv ?_
        refine VO.dec (t := 58) rfl (fun hc16 => ?_) (fun hc16 => ?_)
        · -- FFFT
          refine VO.gN ?_
          refine VO.gN ?_
          refine VO.gN ?_
          refine VO.y rfl (.pT rfl rfl) ?_
          refine VO.k14 0 2 3 4 5 6 7 8 9 10 11 19 30 62 ?_
          refine VC.condT rfl ?_
          refine VC.rs ?_
          refine VO.y rfl (.bst (cs := [Value.int .i64 (0), Value.int .i64 (0), Value.slice none (0) (0)]) rfl tst42 tz42 rfl) ?_
          refine VO.store (k := 3) (c' := [Value.int .i64 (0), Value.int .i64 (0), Value.slice none (0) (0)]) 102 rfl rfl (.inl tk42) rfl rfl rfl rfl rfl ?_
          refine VO.as ?_
          refine VO.kp [114, 111, 102, 0] [(114, mone g13 (.cells [Value.int .i64 (((sX d0 1048576 : Nat) : Int)), Value.int .i64 (((sX (d0.drop (sN d0 1048576)) 1048576 : Nat) : Int)), Value.slice A11_0 (((bRead (d0.drop (sN d0 1048576 + (sN (d0.drop (sN d0 1048576)) 1048576)))).1).length) (c11_0)].toArray 42 (0, 0))), (111, m11), (102, mone g1 (.cells [Value.int .i64 (0), Value.int .i64 (0), Value.slice none (0) (0)].toArray 42 (0, 0))), (0, wm W)] ?_
          refine VO.k14 0 2 3 4 5 6 7 8 9 10 11 19 30 62 ?_
          refine VC.ret ?_
          refine outR ?_
          refine ⟨_, _, res_run (rs := [.cell 2 42, .tmp 3]) rfl (.agg 102 rfl tk42 rfl ⟨_, _, _, mone_self _ _, Nat.le_of_ble_eq_true rfl, rfl⟩ (.tmp rfl .nil)), fun W_ hI => out_of (l := []) hI [] rfl rfl (mle_refl _) (fun hS_ => ?_)⟩
          dsimp only [packV]
          have he0 : ((cDecode d0).1 : Ty.Den TCommit) = (0, 0, []) := by first | rfl | (exact fin0_cDecode_ok_)
          refine ⟨[Value.int .i64 (0), Value.int .i64 (0), Value.slice none (0) (0)], ?_, ?_⟩
          rotate_left
          · rw [he0]; exact (mkO_Commit 0 0 [] (Seps.nilAt 0 hS_) bdk bdk (Ow.nil _ _))
          all_goals (first | rfl | (exact fin0_cDecode_ok_))
        · -- FFFF
          refine VO.gy rfl ⟨_, rfl, rfl⟩ (.ldA 114 rfl tk42 rfl (cellsAt_one rfl rfl)) ?_
          refine VO.gcallN 117 rfl ⟨_, rfl, rfl⟩ fnOk80 rfl (fun W hW => cCheck_ok_ W (mk_Commit (m := wm W) ((sX d0 1048576 : Nat) : Int) ((sX (d0.drop (sN d0 1048576)) 1048576 : Nat) : Int) ((bRead (d0.drop (sN d0 1048576 + (sN (d0.drop (sN d0 1048576)) 1048576)))).1) bdk bdk (OwnL.rd (Ow.ownl f11_0 rfl mnil) (hW.at (i := 111) rfl) (mle_nil _)))) (fun v17 m17 hv17 => ?_)
          try dsimp only at hv17
          subst hv17
          have hfa18 := cCheck_range (((sX d0 1048576 : Nat) : Int), ((sX (d0.drop (sN d0 1048576)) 1048576 : Nat) : Int), (bRead (d0.drop (sN d0 1048576 + (sN (d0.drop (sN d0 1048576)) 1048576)))).1)
          refine VO.gy rfl ⟨_, rfl, rfl⟩ (.neq rfl rfl) ?_
          refine VO.y rfl (.pF rfl rfl) ?_
          refine VO.k14 0 2 3 4 5 6 7 8 9 10 11 19 30 62 ?_
          refine VC.cond rfl (fun hc19 => ?_) (fun hc19 => ?_)
          · -- FFFFT
            refine VC.rs ?_
            refine VO.y rfl (.bst (cs := [Value.int .i64 (0), Value.int .i64 (0), Value.slice none (0) (0)]) rfl tst42 tz42 rfl) ?_
            refine VO.store (k := 3) (c' := [Value.int .i64 (0), Value.int .i64 (0), Value.slice none (0) (0)]) 102 rfl rfl (.inl tk42) rfl rfl rfl rfl rfl ?_
            refine VO.as ?_
            refine VO.kp [114, 111, 102, 0] [(114, mone g13 (.cells [Value.int .i64 (((sX d0 1048576 : Nat) : Int)), Value.int .i64 (((sX (d0.drop (sN d0 1048576)) 1048576 : Nat) : Int)), Value.slice A11_0 (((bRead (d0.drop (sN d0 1048576 + (sN (d0.drop (sN d0 1048576)) 1048576)))).1).length) (c11_0)].toArray 42 (0, 0))), (111, m11), (102, mone g1 (.cells [Value.int .i64 (0), Value.int .i64 (0), Value.slice none (0) (0)].toArray 42 (0, 0))), (0, wm W)] ?_
            refine VO.k14 0 2 3 4 5 6 7 8 9 10 11 19 30 62 ?_
            refine VC.ret ?_
            refine outR ?_
            refine ⟨_, _, res_run (rs := [.cell 2 42, .tmp 3]) rfl (.agg 102 rfl tk42 rfl ⟨_, _, _, mone_self _ _, Nat.le_of_ble_eq_true rfl, rfl⟩ (.tmp rfl .nil)), fun W_ hI => out_of (l := []) hI [] rfl rfl (mle_refl _) (fun hS_ => ?_)⟩
            dsimp only [packV]
            have he0 : ((cDecode d0).1 : Ty.Den TCommit) = (0, 0, []) := by first | rfl | (exact fin0_cDecode_ok_)
            refine ⟨[Value.int .i64 (0), Value.int .i64 (0), Value.slice none (0) (0)], ?_, ?_⟩
            rotate_left
            · rw [he0]; exact (mkO_Commit 0 0 [] (Seps.nilAt 0 hS_) bdk bdk (Ow.nil _ _))
            all_goals (first | rfl | (exact fin0_cDecode_ok_))
          · -- FFFFF
            refine VC.skip ?_
            refine outN ?_
            refine VC.rs ?_
            refine VO.y rfl (.ldA 114 rfl tk42 rfl (cellsAt_one rfl rfl)) ?_
            refine VO.store (k := 3) (c' := [Value.int .i64 (((sX d0 1048576 : Nat) : Int)), Value.int .i64 (((sX (d0.drop (sN d0 1048576)) 1048576 : Nat) : Int)), Value.slice A11_0 (((bRead (d0.drop (sN d0 1048576 + (sN (d0.drop (sN d0 1048576)) 1048576)))).1).length) (c11_0)]) 102 rfl rfl (.inl tk42) rfl rfl rfl rfl rfl ?_
            refine VO.as ?_
            refine VO.kp [114, 111, 102, 0] [(114, mone g13 (.cells [Value.int .i64 (((sX d0 1048576 : Nat) : Int)), Value.int .i64 (((sX (d0.drop (sN d0 1048576)) 1048576 : Nat) : Int)), Value.slice A11_0 (((bRead (d0.drop (sN d0 1048576 + (sN (d0.drop (sN d0 1048576)) 1048576)))).1).length) (c11_0)].toArray 42 (0, 0))), (111, m11), (102, mone g1 (.cells [Value.int .i64 (((sX d0 1048576 : Nat) : Int)), Value.int .i64 (((sX (d0.drop (sN d0 1048576)) 1048576 : Nat) : Int)), Value.slice A11_0 (((bRead (d0.drop (sN d0 1048576 + (sN (d0.drop (sN d0 1048576)) 1048576)))).1).length) (c11_0)].toArray 42 (0, 0))), (0, wm W)] ?_
            refine VO.k14 0 2 3 4 5 6 7 8 9 10 11 19 30 62 ?_
            refine VC.ret ?_
            refine ⟨_, _, res_run (rs := [.cell 2 42, .tmp 3]) rfl (.agg 102 rfl tk42 rfl ⟨_, _, _, mone_self _ _, Nat.le_of_ble_eq_true rfl, rfl⟩ (.tmp rfl .nil)), fun W_ hI => out_of (l := [m11]) hI [111] rfl rfl (mle_refl _) (fun hS_ => ?_)⟩
            dsimp only [packV]
            have he0 : ((cDecode d0).1 : Ty.Den TCommit) = (((sX d0 1048576 : Nat) : Int), ((sX (d0.drop (sN d0 1048576)) 1048576 : Nat) : Int), (bRead (d0.drop (sN d0 1048576 + (sN (d0.drop (sN d0 1048576)) 1048576)))).1) := by first | rfl | (exact fin0_cDecode_ok_)
            refine ⟨[Value.int .i64 (((sX d0 1048576 : Nat) : Int)), Value.int .i64 (((sX (d0.drop (sN d0 1048576)) 1048576 : Nat) : Int)), Value.slice A11_0 (((bRead (d0.drop (sN d0 1048576 + (sN (d0.drop (sN d0 1048576)) 1048576)))).1).length) (c11_0)], ?_, ?_⟩
            rotate_left
            · rw [he0]; exact (mkO_Commit ((sX d0 1048576 : Nat) : Int) ((sX (d0.drop (sN d0 1048576)) 1048576 : Nat) : Int) ((bRead (d0.drop (sN d0 1048576 + (sN (d0.drop (sN d0 1048576)) 1048576)))).1) hS_ bdk bdk (OwnL.ow (Ow.ownl f11_0 rfl mnil) rfl))
            all_goals (first | rfl | (exact fin0_cDecode_ok_))
end
section
set_option linter.unusedVariables false
abbrev DHC := Int × Int × Hd
instance decHC : DecidableEq DHC := (@instDecidableEqProd _ _ inferInstance (@instDecidableEqProd _ _ inferInstance inferInstance))
end
section
set_option linter.unusedVariables false
def fEnc (r : Bytes) : Bytes := venc r.length ++ r
def fAppend (b r : Bytes) : Bytes × Int := if 131072 < r.length then ([], 3) else (b ++ fEnc r, 0)
def fRead (b : Bytes) : Bytes × Int × Int := if sE b 131072 = 0 ∧ (sX b 131072 : Int) ≤ (b.length : Int) - sN b 131072 then ((b.drop (sN b 131072)).take (sX b 131072), (sN b 131072 : Int) + sX b 131072, 0) else ([], 0, 5)
theorem fAppend_long {b r : Bytes} (h : (131072 : Int) < r.length) : fAppend b r = ([], 3) := if_pos (by omega)
theorem fAppend_good {b r : Bytes} (h : ¬ (131072 : Int) < r.length) : fAppend b r = (b ++ fEnc r, 0) := if_neg (by omega)
theorem fEnc_len {r : Bytes} (h : r.length ≤ 131072) : (fEnc r).length ≤ r.length + 10 := by
  have := venc_len (x := r.length) (by omega)
  simp only [fEnc, List.length_append]; omega
theorem fEnc_pos (r : Bytes) : 1 ≤ (fEnc r).length := by
  have := venc_pos r.length
  simp only [fEnc, List.length_append]; omega
theorem sN_pos {b : Bytes} {m : Int} (h : sE b m = 0) : 1 ≤ sN b m := by
  unfold sE at h; unfold sN
  cases hv : vsmall b m with
  | none => rw [hv] at h; cases h
  | some p =>
    obtain ⟨x, n⟩ := p
    unfold vsmall at hv
    cases hr : vread b with
    | none => rw [hr] at hv; cases hv
    | some q =>
      obtain ⟨y, k⟩ := q
      rw [hr] at hv
      dsimp only at hv
      split at hv
      · cases hv; exact (vread_bounds hr).2.1
      · cases hv
theorem fRead_bounds (b : Bytes) : 0 ≤ (fRead b).2.1 ∧ (fRead b).2.1 ≤ b.length ∧ (fRead b).1.length ≤ 131072 ∧ ((fRead b).2.2 = 0 ∨ (fRead b).2.2 = 5) ∧ ((fRead b).2.2 = 0 → 1 ≤ (fRead b).2.1) ∧ (fRead b).1.length ≤ b.length := by
  have hb := s_bounds b 131072 (by omega)
  have := hb.2.1 (by omega)
  unfold fRead
  split
  · rename_i h
    have := sN_pos h.1
    refine ⟨by dsimp only; omega, by dsimp only; omega, by simp only [List.length_take]; omega, .inl rfl, fun _ => by dsimp only; omega, by simp only [List.length_take, List.length_drop]; omega⟩
  · exact ⟨Int.le_refl _, by simp, by simp, .inr rfl, fun h => (by cases h), by simp⟩
theorem fRead_there {r : Bytes} (h : r.length ≤ 131072) (s : Bytes) : fRead (fEnc r ++ s) = (r, ((fEnc r).length : Int), 0) := by
  obtain ⟨a1, a2, a3⟩ := s_there (x := r.length) (m := 131072) (by omega) (by omega) (r ++ s)
  unfold fEnc
  rw [List.append_assoc]
  unfold fRead
  rw [a1, a2, a3, if_pos ⟨rfl, by simp only [List.length_append]; omega⟩, List.drop_left, List.take_left]
  simp only [List.length_append, Int.natCast_add]
theorem fRead_back {b : Bytes} (h : (fRead b).2.2 = 0) : b = fEnc (fRead b).1 ++ b.drop (fRead b).2.1.toNat ∧ (fRead b).2.1 = ((fEnc (fRead b).1).length : Int) ∧ (fRead b).1.length ≤ 131072 := by
  have hb := s_bounds b 131072 (by omega)
  have h1 := hb.2.1 (by omega)
  unfold fRead at h ⊢
  split at h
  · rename_i hh
    rw [if_pos hh]
    have e := s_back hh.1
    dsimp only
    have hl : ((b.drop (sN b 131072)).take (sX b 131072)).length = sX b 131072 := by
      simp only [List.length_take, List.length_drop]; omega
    have hv : (venc (sX b 131072)).length = sN b 131072 := by
      have := congrArg List.length e
      simp only [List.length_append, List.length_drop] at this
      omega
    refine ⟨?_, ?_, by rw [hl]; omega⟩
    · unfold fEnc
      rw [hl, List.append_assoc, show ((sN b 131072 : Int) + sX b 131072).toNat = sN b 131072 + sX b 131072 by omega, ← List.drop_drop, List.take_append_drop, ← e]
    · unfold fEnc
      rw [List.length_append, hl, hv]; omega
  · cases h
def fWhole (b : Bytes) : Int × Int × Bool := if sE b 131072 = 0 ∧ (sX b 131072 : Int) ≤ (b.length : Int) - sN b 131072 then ((sN b 131072 : Int), (sN b 131072 : Int) + sX b 131072, true) else (0, 0, false)
theorem whole_no1 {b : Bytes} (h : ¬ sE b 131072 = 0) : fWhole b = (0, 0, false) := if_neg fun q => h q.1
theorem whole_no2 {b : Bytes} (h : (b.length : Int) - sN b 131072 < sX b 131072) : fWhole b = (0, 0, false) := if_neg fun q => by have := q.2; omega
theorem whole_yes {b : Bytes} (h : ¬ ¬ sE b 131072 = 0) (h2 : ¬ (b.length : Int) - sN b 131072 < sX b 131072) : fWhole b = ((sN b 131072 : Int), (sN b 131072 : Int) + sX b 131072, true) := if_pos ⟨Decidable.not_not.1 h, by omega⟩
theorem fWhole_bounds (b : Bytes) : 0 ≤ (fWhole b).1 ∧ (fWhole b).1 ≤ (fWhole b).2.1 ∧ (fWhole b).2.1 ≤ b.length ∧ (fWhole b).2.1 - (fWhole b).1 ≤ 131072 := by
  have hb := s_bounds b 131072 (by omega)
  have := hb.2.1 (by omega)
  unfold fWhole
  split
  · rename_i h; exact ⟨by dsimp only; omega, by dsimp only; omega, by dsimp only; omega, by dsimp only; omega⟩
  · exact ⟨Int.le_refl _, Int.le_refl _, by simp, by decide⟩
theorem fRead_bad {b : Bytes} (h : (fWhole b).2.2 = false) : fRead b = ([], 0, 5) := by
  unfold fWhole at h; unfold fRead
  split at h
  · cases h
  · rename_i h0; exact if_neg h0
theorem fRead_good {b : Bytes} (h : (fWhole b).2.2 = true) : fRead b = ((b.take (fWhole b).2.1.toNat).drop (fWhole b).1.toNat, (fWhole b).2.1, 0) := by
  have hb := s_bounds b 131072 (by omega)
  unfold fWhole at h ⊢; unfold fRead
  split at h
  · rename_i h0
    rw [if_pos h0, if_pos h0]
    dsimp only
    rw [List.drop_take, Int.toNat_natCast, show ((sN b 131072 : Int) + sX b 131072).toNat - sN b 131072 = sX b 131072 by omega]
  · cases h
theorem clone_nil' {e : Ty} {m : Mem} {A : Option Addr} {c : Nat} {l : List e.Den} (h : Rd (.sl e) m [.slice A l.length c] l) (hA : A = none) : l = [] := by
  subst hA
  obtain ⟨A', c', h1, _, _, h4⟩ := h
  rcases h4 with h4 | ⟨g, off, all, k1, _⟩
  · exact List.eq_nil_of_length_eq_zero h4
  · simp only [List.cons.injEq, Value.slice.injEq, and_true] at h1
    rw [← h1.1] at k1; cases k1
theorem fAppend_len (b r : Bytes) : (fAppend b r).1.length ≤ b.length + 131082 := by
  unfold fAppend
  split
  · simp
  · have := fEnc_len (r := r) (by omega)
    simp only [List.length_append]; omega
theorem fAppend_range (b r : Bytes) : 0 ≤ (fAppend b r).2 ∧ (fAppend b r).2 ≤ 3 := by unfold fAppend; split <;> exact ⟨by dsimp only; omega, by dsimp only; omega⟩
theorem cEnc_len {c : DCommit} (h : cCheck c = 0) : (cEnc c).length ≤ 700 := by
  have := cEncode_len c
  unfold cEncode at this
  rwa [if_pos h] at this
def cFrame (c : DCommit) : Bytes := fEnc (cEnc c)
def cFrames (l : List DCommit) : Bytes := (l.map cFrame).flatten
theorem cFrame_len {c : DCommit} (h : cCheck c = 0) : (cFrame c).length ≤ 710 ∧ 1 ≤ (cFrame c).length := by
  have h1 := cEnc_len h
  have h2 := fEnc_len (r := cEnc c) (by omega)
  exact ⟨by unfold cFrame; omega, fEnc_pos _⟩
theorem cFrames_cons (c : DCommit) (l : List DCommit) : cFrames (c :: l) = cFrame c ++ cFrames l := rfl
theorem cFrames_app (l r : List DCommit) : cFrames (l ++ r) = cFrames l ++ cFrames r := by simp [cFrames]
/-- a frame of a commit is read -/
theorem frame_there {c : DCommit} (h : cCheck c = 0) (s : Bytes) : fRead (cFrame c ++ s) = (cEnc c, ((cFrame c).length : Int), 0) ∧ cDecode (cEnc c) = (c, 0) :=
  ⟨fRead_there (by have := cEnc_len h; omega) s, cDecode_there h⟩
theorem frame_back {b : Bytes} (h : (fRead b).2.2 = 0) (h2 : (cDecode (fRead b).1).2 = 0) : cCheck (cDecode (fRead b).1).1 = 0 ∧ b = cFrame (cDecode (fRead b).1).1 ++ b.drop (fRead b).2.1.toNat ∧ (fRead b).2.1 = ((cFrame (cDecode (fRead b).1).1).length : Int) := by
  obtain ⟨h3, h4⟩ := cDecode_back h2
  obtain ⟨h5, h6, _⟩ := fRead_back h
  refine ⟨h3, ?_, ?_⟩
  · conv => lhs; rw [h5]
    unfold cFrame; rw [← h4]
  · unfold cFrame; rw [← h4]; exact h6
end
section
set_option linter.unusedVariables false
set_option linter.unusedSimpArgs false
set_option maxRecDepth 4000
theorem fnOk84 : fnOk Try.prog 84 = true := by kernel_rfl
theorem fnOk88 : fnOk Try.prog 88 = true := by kernel_rfl
theorem cloneB_ok (W : World) {v0 : Value} {d0 : List UInt8} (h0 : Rd (.sl .byte) (wm W) [v0] d0) (e0 : d0.length ≤ 140737488355000) : CallR Try.prog 84 [v0] W (mnil) (fun v m' => ∃ (s0 : Value), v = s0 ∧ Ow (.sl .byte) m' [s0] (d0)) := by
  obtain ⟨A0, c0, rfl, l0, k0⟩ := h0.slice
  simp only [maxLen] at k0
  refine CallR.ofA (n := 8) Try.func84 rfl rfl rfl ?_
  refine VC.rs ?_
  refine VO.as ?_
  refine VO.k2 0 2 ?_
  refine VC.seq ?_
  refine VC.rs ?_
  refine VO.mv ?_
  refine VO.y rfl (.snil rfl rfl Try.underlying22) ?_
  refine VO.k3 0 2 4 ?_
  refine VC.cond rfl (fun hc1 => ?_) (fun hc1 => ?_)
  · -- T
    refine VC.rs ?_
    refine VO.as ?_
    refine VO.kp [0] [(0, wm W)] ?_
    refine VO.k3 0 2 4 ?_
    refine VC.ret ?_
    refine outR ?_
    refine ⟨_, _, res_run (rs := [.tmp 2]) rfl (.tmp rfl .nil), fun W_ hI => out_of (l := []) hI [] rfl rfl (mle_refl _) (fun hS_ => ?_)⟩
    dsimp only [packV]
    have he0 : (d0 : Ty.Den (.sl .byte)) = [] := by first | rfl | (exact clone_nil' h0 ‹_ = none›)
    refine ⟨Value.slice none (0) (0), ?_, ?_⟩
    rotate_left
    · rw [he0]; exact (Ow.nil _ _)
    all_goals (first | rfl | (simp [*]; done))
  · -- F
    refine VC.skip ?_
    refine outN ?_
    refine VC.rs ?_
    refine VO.bsl (cs := []) 103 rfl rfl tsl22 tz5 rfl rfl (fun g2 => ?_)
    refine VO.mv ?_
    have ho5 : OwnL .byte (mone g2 (.cells [].toArray 5 (0, 0))) mnil (Value.slice (some ⟨g2, 0, none⟩) (0) (0)) [] := OwnL.lit 0 All2c.nil rfl rfl
    obtain ⟨mo4, cs4, hM4, hA4, hC4⟩ := ho5
    obtain ⟨all4, hS4, hR4⟩ := Rd.srcI (P := Try.prog) (h0) Try.underlying22
    refine VO.app 103 rfl rfl rfl tsl22 tz5 rfl rfl hM4 hA4 (hS4 _ 0 rfl) hR4.nice bdm bd (by decide) (fun v4 m4 hN4 => ?_)
    have ho4 : OwnL .byte m4 mnil v4 (d0) := OwnL.more hC4 hN4 (All2c.mono hR4 fun _ _ h => Rd.flat rfl h _)
    obtain ⟨A4, c4, rfl, l4, k4⟩ := ho4.slice
    simp only [maxLen] at k4
    refine VO.as ?_
    refine VO.kp [103, 0] [(103, m4), (0, wm W)] ?_
    refine VO.k3 0 2 4 ?_
    refine VC.ret ?_
    refine ⟨_, _, res_run (rs := [.tmp 2]) rfl (.tmp rfl .nil), fun W_ hI => out_of (l := [m4]) hI [103] rfl rfl (mle_refl _) (fun hS_ => ?_)⟩
    dsimp only [packV]
    have he0 : (d0 : Ty.Den (.sl .byte)) = d0 := by first | rfl | (exact clone_nil' h0 ‹_ = none›)
    refine ⟨Value.slice A4 ((d0).length) (c4), ?_, ?_⟩
    rotate_left
    · rw [he0]; exact (Ow.up (OwnL.ow ho4 rfl) (hS_.1 _ (.head _)))
    all_goals (first | rfl | (simp [*]; done))
theorem fAppend_ok (W : World) {v0 : Value} {d0 : List UInt8} (h0 : Rd (.sl .byte) (wm W) [v0] d0) {v1 : Value} {d1 : List UInt8} (h1 : Rd (.sl .byte) (wm W) [v1] d1) (e0 : d0.length ≤ 140737488000000) : CallR Try.prog 55 [v0, v1] W (mnil) (fun v m' => ∃ (s0 : Value), v = .tuple #[s0, .int .i64 ((fAppend d0 d1).2)] ∧ Ow (.sl .byte) m' [s0] ((fAppend d0 d1).1)) := by
  obtain ⟨A0, c0, rfl, l0, k0⟩ := h0.slice
  simp only [maxLen] at k0
  obtain ⟨A1, c1, rfl, l1, k1⟩ := h1.slice
  simp only [maxLen] at k1
  refine CallR.ofA (n := 16) Try.func55 rfl rfl rfl ?_
  refine VC.rs ?_
  refine VO.as ?_
  refine VO.as ?_
  refine VO.k4 0 1 4 5 ?_
  refine VC.seq ?_
  refine VC.rs ?_
  refine VO.mv ?_
  refine VO.y rfl (.lenS rfl tsl22) ?_
  refine VO.y rfl (.gtr rfl rfl) ?_
  refine VO.k5 0 1 4 5 8 ?_
  refine VC.cond rfl (fun hc1 => ?_) (fun hc1 => ?_)
  · -- T
    refine VC.rs ?_
    refine VO.as ?_
    refine VO.as ?_
    refine VO.kp [0] [(0, wm W)] ?_
    refine VO.k5 0 1 4 5 8 ?_
    refine VC.ret ?_
    refine outR ?_
    refine ⟨_, _, res_run (rs := [.tmp 4, .tmp 5]) rfl (.tmp rfl (.tmp rfl .nil)), fun W_ hI => out_of (l := []) hI [] rfl rfl (mle_refl _) (fun hS_ => ?_)⟩
    dsimp only [packV]
    have he0 : ((fAppend d0 d1).1 : Ty.Den (.sl .byte)) = [] := by first | rfl | (first | (rw [fAppend_long (by omega)] <;> rfl) | (rw [fAppend_good (by omega)] <;> first | rfl | (simp only [fEnc, List.append_assoc, Int.toNat_natCast, List.nil_append]; done)))
    refine ⟨Value.slice none (0) (0), ?_, ?_⟩
    rotate_left
    · rw [he0]; exact (Ow.nil _ _)
    all_goals (first | rfl | (first | (rw [fAppend_long (by omega)] <;> rfl) | (rw [fAppend_good (by omega)] <;> first | rfl | (simp only [fEnc, List.append_assoc, Int.toNat_natCast, List.nil_append]; done))))
  · -- F
    refine VC.skip ?_
    refine outN ?_
    refine VC.rs ?_
    refine VO.mv ?_
    refine VO.mv ?_
    refine VO.y rfl (.lenS rfl tsl22) ?_
    refine VO.y rfl (.cvI rfl ⟨_, Try.underlying3⟩ Try.underlying117 (IntWalk.u64_in _ bd)) ?_
    refine VO.callN 102 rfl fnOk82 rfl (fun W hW => vAppend_ok W (Rd.mono h0 (hW.at (i := 0) rfl)) d1.length bd bd) (fun v2 m2 hv2 => ?_)
    obtain ⟨s2_0, rfl, f2_0⟩ := hv2
    have hfa3 := venc_len (x := d1.length) (by first | omega | exact or64 (by assumption) _)
    obtain ⟨A2_0, c2_0, eq2_0, l2_0, k2_0⟩ := f2_0.slice
    subst eq2_0
    simp only [maxLen] at k2_0
    refine VO.mv ?_
    obtain ⟨mo4, cs4, hM4, hA4, hC4⟩ := (Ow.ownl f2_0 rfl mnil)
    obtain ⟨all4, hS4, hR4⟩ := Rd.srcI (P := Try.prog) (h1) Try.underlying22
    refine VO.app 102 rfl rfl rfl tsl22 tz5 rfl rfl hM4 hA4 (hS4 _ 0 rfl) hR4.nice bdm bd (by decide) (fun v4 m4 hN4 => ?_)
    have ho4 : OwnL .byte m4 mnil v4 ((d0 ++ venc d1.length) ++ d1) := OwnL.more hC4 hN4 (All2c.mono hR4 fun _ _ h => Rd.flat rfl h _)
    obtain ⟨A4, c4, rfl, l4, k4⟩ := ho4.slice
    simp only [maxLen] at k4
    refine VO.as ?_
    refine VO.as ?_
    refine VO.kp [102, 0] [(102, m4), (0, wm W)] ?_
    refine VO.k5 0 1 4 5 8 ?_
    refine VC.ret ?_
    refine ⟨_, _, res_run (rs := [.tmp 4, .tmp 5]) rfl (.tmp rfl (.tmp rfl .nil)), fun W_ hI => out_of (l := [m4]) hI [102] rfl rfl (mle_refl _) (fun hS_ => ?_)⟩
    dsimp only [packV]
    have he0 : ((fAppend d0 d1).1 : Ty.Den (.sl .byte)) = (d0 ++ venc d1.length) ++ d1 := by first | rfl | (first | (rw [fAppend_long (by omega)] <;> rfl) | (rw [fAppend_good (by omega)] <;> first | rfl | (simp only [fEnc, List.append_assoc, Int.toNat_natCast, List.nil_append]; done)))
    refine ⟨Value.slice A4 (((d0 ++ venc d1.length) ++ d1).length) (c4), ?_, ?_⟩
    rotate_left
    · rw [he0]; exact (Ow.up (OwnL.ow ho4 rfl) (hS_.1 _ (.head _)))
    all_goals (first | rfl | (first | (rw [fAppend_long (by omega)] <;> rfl) | (rw [fAppend_good (by omega)] <;> first | rfl | (simp only [fEnc, List.append_assoc, Int.toNat_natCast, List.nil_append]; done))))
theorem fWhole_ok (W : World) {v0 : Value} {d0 : List UInt8} (h0 : Rd (.sl .byte) (wm W) [v0] d0) : CallR Try.prog 88 [v0] W (mnil) (fun v m' => v = .tuple #[.int .i64 ((fWhole d0).1), .int .i64 ((fWhole d0).2.1), .bool ((fWhole d0).2.2)]) := by
  obtain ⟨A0, c0, rfl, l0, k0⟩ := h0.slice
  simp only [maxLen] at k0
  refine CallR.ofA (n := 28) Try.func88 rfl rfl rfl ?_
  refine VC.rs ?_
  refine VO.as ?_
  refine VO.as ?_
  refine VO.as ?_
  refine VO.k4 0 2 3 4 ?_
  refine VC.rs ?_
  refine VO.mv ?_
  refine VO.callN 101 rfl fnOk86 rfl (fun W hW => vSmall_ok W (Rd.mono h0 (hW.at (i := 0) rfl)) 131072 bdk) (fun v1 m1 hv1 => ?_)
  subst hv1
  have hfa2 := s_bounds d0 131072 (by omega)
  refine VO.mv ?_
  refine VO.y rfl (.ext rfl rfl) ?_
  refine VO.y rfl (.ext rfl rfl) ?_
  refine VO.y rfl (.ext rfl rfl) ?_
  refine VO.as ?_
  refine VO.as ?_
  refine VO.as ?_
  refine VO.k7 0 2 3 4 5 6 7 ?_
  refine VC.seq ?_
  refine VC.rs ?_
  refine VO.mv ?_
  refine VO.y rfl (.neq rfl rfl) ?_
  refine VO.mv ?_
  refine VO.dec (t := 16) rfl (fun hc3 => ?_) (fun hc3 => ?_)
  · -- T
    refine VO.gN ?_
    refine VO.gN ?_
    refine VO.gN ?_
    refine VO.gN ?_
    refine VO.gN ?_
    refine VO.gN ?_
    refine VO.y rfl (.pT rfl rfl) ?_
    refine VO.kp [0] [(0, wm W)] ?_
    refine VO.k8 0 2 3 4 5 6 7 23 ?_
    refine VC.condT rfl ?_
    refine VC.rs ?_
    refine VO.as ?_
    refine VO.as ?_
    refine VO.as ?_
    refine VO.k8 0 2 3 4 5 6 7 23 ?_
    refine VC.ret ?_
    refine outR ?_
    refine ⟨_, _, res_run (rs := [.tmp 2, .tmp 3, .tmp 4]) rfl (.tmp rfl (.tmp rfl (.tmp rfl .nil))), fun W_ hI => out_of (l := []) hI [] rfl rfl (mle_refl _) (fun hS_ => ?_)⟩
    dsimp only [packV]
    all_goals (first | rfl | (first | (rw [whole_no1 (by assumption)] <;> rfl) | (rw [whole_no2 (by omega)] <;> rfl) | (rw [whole_yes (by assumption) (by omega)] <;> rfl)))
  · -- F
    refine VO.gy rfl ⟨_, rfl, rfl⟩ (.mv rfl) ?_
    refine VO.gy rfl ⟨_, rfl, rfl⟩ (.lenS rfl tsl22) ?_
    refine VO.gy rfl ⟨_, rfl, rfl⟩ (.mv rfl) ?_
    refine VO.gy rfl ⟨_, rfl, rfl⟩ (.sub rfl rfl rfl ⟨bd, bd⟩) ?_
    refine VO.gy rfl ⟨_, rfl, rfl⟩ (.mv rfl) ?_
    refine VO.gy rfl ⟨_, rfl, rfl⟩ (.lss rfl rfl) ?_
    refine VO.y rfl (.pF rfl rfl) ?_
    refine VO.kp [0] [(0, wm W)] ?_
    refine VO.k8 0 2 3 4 5 6 7 23 ?_
    refine VC.cond rfl (fun hc4 => ?_) (fun hc4 => ?_)
    · -- FT
      refine VC.rs ?_
      refine VO.as ?_
      refine VO.as ?_
      refine VO.as ?_
      refine VO.k8 0 2 3 4 5 6 7 23 ?_
      refine VC.ret ?_
      refine outR ?_
      refine ⟨_, _, res_run (rs := [.tmp 2, .tmp 3, .tmp 4]) rfl (.tmp rfl (.tmp rfl (.tmp rfl .nil))), fun W_ hI => out_of (l := []) hI [] rfl rfl (mle_refl _) (fun hS_ => ?_)⟩
      dsimp only [packV]
      all_goals (first | rfl | (first | (rw [whole_no1 (by assumption)] <;> rfl) | (rw [whole_no2 (by omega)] <;> rfl) | (rw [whole_yes (by assumption) (by omega)] <;> rfl)))
    · -- FF
      refine VC.skip ?_
      refine outN ?_
      refine VC.rs ?_
      refine VO.mv ?_
      refine VO.mv ?_
      refine VO.mv ?_
      refine VO.y rfl (.add (c := ((sN d0 131072 + (sX d0 131072) : Nat) : Int)) rfl rfl (by omega) ⟨bd, bd⟩) ?_
      refine VO.as ?_
      refine VO.as ?_
      refine VO.as ?_
      refine VO.k8 0 2 3 4 5 6 7 23 ?_
      refine VC.ret ?_
      refine ⟨_, _, res_run (rs := [.tmp 2, .tmp 3, .tmp 4]) rfl (.tmp rfl (.tmp rfl (.tmp rfl .nil))), fun W_ hI => out_of (l := []) hI [] rfl rfl (mle_refl _) (fun hS_ => ?_)⟩
      dsimp only [packV]
      all_goals (first | rfl | (first | (rw [whole_no1 (by assumption)] <;> rfl) | (rw [whole_no2 (by omega)] <;> rfl) | (rw [whole_yes (by assumption) (by omega)] <;> rfl)))
theorem fRead_ok (W : World) {v0 : Value} {d0 : List UInt8} (h0 : Rd (.sl .byte) (wm W) [v0] d0) : CallR Try.prog 70 [v0] W (mnil) (fun v m' => ∃ (s0 : Value), v = .tuple #[s0, .int .i64 ((fRead d0).2.1), .int .i64 ((fRead d0).2.2)] ∧ Ow (.sl .byte) m' [s0] ((fRead d0).1)) := by
  obtain ⟨A0, c0, rfl, l0, k0⟩ := h0.slice
  simp only [maxLen] at k0
  refine CallR.ofA (n := 22) Try.func70 rfl rfl rfl ?_
  refine VC.rs ?_
  refine VO.as ?_
  refine VO.as ?_
  refine VO.as ?_
  refine VO.k4 0 2 3 4 ?_
  refine VC.rs ?_
  refine VO.mv ?_
  refine VO.callN 101 rfl fnOk88 rfl (fun W hW => fWhole_ok W (Rd.mono h0 (hW.at (i := 0) rfl))) (fun v1 m1 hv1 => ?_)
  subst hv1
  have hfa2 := fWhole_bounds d0
  refine VO.mv ?_
  refine VO.y rfl (.ext rfl rfl) ?_
  refine VO.y rfl (.ext rfl rfl) ?_
  refine VO.y rfl (.ext rfl rfl) ?_
  refine VO.as ?_
  refine VO.as ?_
  refine VO.as ?_
  refine VO.k7 0 2 3 4 5 6 7 ?_
  refine VC.seq ?_
  refine VC.rs ?_
  refine VO.mv ?_
  refine VO.y rfl (.not rfl) ?_
  refine VO.kp [0] [(0, wm W)] ?_
  refine VO.k8 0 2 3 4 5 6 7 15 ?_
  refine VC.condBN rfl (fun hc3 => ?_) (fun hc3 => ?_)
  · -- T
    refine VC.rs ?_
    refine VO.as ?_
    refine VO.as ?_
    refine VO.as ?_
    refine VO.k8 0 2 3 4 5 6 7 15 ?_
    refine VC.ret ?_
    refine outR ?_
    refine ⟨_, _, res_run (rs := [.tmp 2, .tmp 3, .tmp 4]) rfl (.tmp rfl (.tmp rfl (.tmp rfl .nil))), fun W_ hI => out_of (l := []) hI [] rfl rfl (mle_refl _) (fun hS_ => ?_)⟩
    dsimp only [packV]
    have he0 : ((fRead d0).1 : Ty.Den (.sl .byte)) = [] := by first | rfl | (first | (rw [fRead_bad (by first | assumption | simpa using ‹_›)] <;> rfl) | (rw [fRead_good (by first | assumption | simpa using ‹_›)] <;> rfl))
    refine ⟨Value.slice none (0) (0), ?_, ?_⟩
    rotate_left
    · rw [he0]; exact (Ow.nil _ _)
    all_goals (first | rfl | (first | (rw [fRead_bad (by first | assumption | simpa using ‹_›)] <;> rfl) | (rw [fRead_good (by first | assumption | simpa using ‹_›)] <;> rfl)))
  · -- F
    refine VC.skip ?_
    refine outN ?_
    refine VC.rs ?_
    refine VO.mv ?_
    refine VO.mv ?_
    refine VO.mv ?_
    obtain ⟨A4, hA4, hs4⟩ := h0.sub' 1 (((fWhole d0).1).toNat) (((fWhole d0).2.1).toNat) rfl bd bd
    refine VO.y rfl (.slI (((fWhole d0).1).toNat) (((fWhole d0).2.1).toNat) A4 rfl rfl rfl tsl22 bd bd hA4 bd bd) ?_
    refine VO.callN 105 rfl fnOk84 rfl (fun W hW => cloneB_ok W (Rd.mono hs4 (hW.at (i := 0) rfl)) bd) (fun v5 m5 hv5 => ?_)
    obtain ⟨s5_0, rfl, f5_0⟩ := hv5
    obtain ⟨A5_0, c5_0, eq5_0, l5_0, k5_0⟩ := f5_0.slice
    subst eq5_0
    simp only [maxLen] at k5_0
    refine VO.mv ?_
    refine VO.as ?_
    refine VO.as ?_
    refine VO.as ?_
    refine VO.k8 0 2 3 4 5 6 7 15 ?_
    refine VC.ret ?_
    refine ⟨_, _, res_run (rs := [.tmp 2, .tmp 3, .tmp 4]) rfl (.tmp rfl (.tmp rfl (.tmp rfl .nil))), fun W_ hI => out_of (l := [m5]) hI [105] rfl rfl (mle_refl _) (fun hS_ => ?_)⟩
    dsimp only [packV]
    have he0 : ((fRead d0).1 : Ty.Den (.sl .byte)) = ((d0.take (((fWhole d0).2.1).toNat)).drop (((fWhole d0).1).toNat)) := by first | rfl | (first | (rw [fRead_bad (by first | assumption | simpa using ‹_›)] <;> rfl) | (rw [fRead_good (by first | assumption | simpa using ‹_›)] <;> rfl))
    refine ⟨Value.slice A5_0 (((d0.take (((fWhole d0).2.1).toNat)).drop (((fWhole d0).1).toNat)).length) (c5_0), ?_, ?_⟩
    rotate_left
    · rw [he0]; exact (Ow.up (OwnL.ow (Ow.ownl f5_0 rfl mnil) rfl) (hS_.1 _ (.head _)))
    all_goals (first | rfl | (first | (rw [fRead_bad (by first | assumption | simpa using ‹_›)] <;> rfl) | (rw [fRead_good (by first | assumption | simpa using ‹_›)] <;> rfl)))
end
section
section
variable {P : Program} {n : Nat} {w0 : World} {σ : Env} {Ω : Ctx} {R : Exit → Env → Ctx → Prop}
/-- Several ways meet ahead of y: y is walked once, from the state S g, C g for any g of which I holds. -/
theorem VC.seqJ {G : Type} {x y : Code} (S : G → Env) (C : G → Ctx) (I : G → Prop) (rest : ∀ g, I g → VC P n w0 y R (S g) (C g))
    (h : (∀ g σ' Ω', I g → To w0 (S g) (C g) σ' Ω' → VC P n w0 y R σ' Ω') → VC P n w0 x (thenR (fun σ' Ω' => VC P n w0 y R σ' Ω') R) σ Ω) : VC P n w0 (.seq x y) R σ Ω :=
  VC.seq (h fun g _ _ hi ht => VC.esub _ ht.env (VC.inv _ ht.inv (rest g hi)))
end
section
variable {P : Program} {n : Nat} {w0 : World} {σ : Env} {Ω ΩS : Ctx} {ops : Array Oper} {K : Env → Ctx → Prop} {R : Exit → Env → Ctx → Prop}
theorem VO.clsP {r : List Oper} (k : Nat) (ids : List Nat) {l : List Mem} (hg : cgets Ω ids = some l) {e : Ty} {v : Value} {x : Nat × e.Den} (hp : Seps (muns l) l → Ow (.ptr e) (muns l) [v] x) (h : ∀ M, Ow (.ptr e) M [v] x → VO P n w0 ops r σ ((k, M) :: cdels Ω ids) K) : VO P n w0 ops r σ Ω K :=
  VO.gather k ids hg fun hS => h _ (hp hS)
theorem VC.clsP {c : Code} (k : Nat) (ids : List Nat) {l : List Mem} (hg : cgets Ω ids = some l) {e : Ty} {v : Value} {x : Nat × e.Den} (hp : Seps (muns l) l → Ow (.ptr e) (muns l) [v] x) (h : ∀ M, Ow (.ptr e) M [v] x → VC P n w0 c R σ ((k, M) :: cdels Ω ids)) : VC P n w0 c R σ Ω :=
  VC.gather k ids hg fun hS => h _ (hp hS)
theorem VD.clsP {t : Nat} {ss : List (Nat × Bool)} (k : Nat) (ids : List Nat) {l : List Mem} (hg : cgets Ω ids = some l) {e : Ty} {v : Value} {x : Nat × e.Den} (hp : Seps (muns l) l → Ow (.ptr e) (muns l) [v] x) (h : ∀ M, Ow (.ptr e) M [v] x → VD P n w0 ops ΩS t ss σ ((k, M) :: cdels Ω ids) K) : VD P n w0 ops ΩS t ss σ Ω K :=
  VD.gather k ids hg fun hS => h _ (hp hS)
end
section
variable {P : Program} {n : Nat} {w0 : World} {σ : Env} {Ω : Ctx} {ops : Array Oper} {K : Env → Ctx → Prop}
theorem Stp.appO {e : Ty} {s x : Operand} {t xt et xe : TypeId} {b g c : Nat} {d : Option Nat} {gd : Option (Nat × Bool)} {ty : TypeId} {pos : String} {af : Array Edge} {v : Value} {xs : List e.Den} {y : e.Den} {yc z : List Value} (i j k : Nat) {m mj mk : Mem} (hsv : ev σ s = some v) (hxv : ev σ x = some (.slice (some ⟨g, 0, none⟩) 1 c)) (ht : tsl P t = some (et, e.sz, b)) (hz : tz P et = some z) (hzl : z.length = e.sz)
    (hm : cget Ω i = some m) (hj : cget (cdel Ω i) j = some mj) (hk : cget Ω k = some mk) (hown : Ow (.sl e) m [v] xs) (hy : Ow e mj yc y) (hxt : P.underlying xt = some (.slice xe)) (hc : cellsAt mk g 0 e.sz yc) (hml : xs.length + 1 ≤ maxLen) (hb : (xs.length + 1) * b ≤ 140737488355328) (hb0 : b ≠ 0) :
    Stp P n w0 σ Ω ⟨d, .call { callee := .builtin .append, args := [s, x].toArray, argTypes := [t, xt].toArray }, ty, pos, af, gd⟩ (fun v' Ω' => ∃ m', Ow (.sl e) m' [v'] (xs ++ [y]) ∧ Ω' = (i, m') :: cdel (cdel Ω i) j) :=
  fun a W he hi K' Q hK => by
    obtain ⟨m0, m1, rc, hS, hA, hL⟩ := hown.opn
    obtain ⟨q1, q2, q3, q4, _⟩ := hi.gets (ids := [i, j]) (l := [m, mj]) (by simp [cgets, hm, hj])
    have dmj : mdj m mj := by simpa using q1
    have d01 : mdj m0 m1 := by have := hS.2; simpa using this
    have l0 := hS.1 m0 (.head _)
    have l1 := hS.1 m1 (.tail _ (.head _))
    have d1j : mdj m1 mj := dmj.mono l1 (mle_refl _)
    have hnew : mdj m0 (mun m1 mj) := (mdj_un d01.symm (dmj.mono l0 (mle_refl _)).symm).symm
    have hΩ2 : Inv w0 ((i, m0) :: (j, mun m1 mj) :: cdel (cdel Ω i) j) W := by
      have hdel : Inv w0 (cdel (cdel Ω i) j) W := q4
      have f1 : ∀ p ∈ cdel (cdel Ω i) j, mdj m p.2 := fun p hp => q3 m (.head _) p hp
      have f2 : ∀ p ∈ cdel (cdel Ω i) j, mdj mj p.2 := fun p hp => q3 mj (.tail _ (.head _)) p hp
      refine ⟨hi.os, hi.tape, hi.output, hi.size, fun p hp => ?_, List.pairwise_cons.2 ⟨fun p hp => ?_, List.pairwise_cons.2 ⟨fun p hp => ?_, hdel.dj⟩⟩⟩
      · rcases List.mem_cons.1 hp with rfl | hp
        · exact l0.trans (hi.at hm)
        · rcases List.mem_cons.1 hp with rfl | hp
          · exact mun_le (l1.trans (hi.at hm)) (q2 mj (.tail _ (.head _)))
          · exact hdel.le p hp
      · rcases List.mem_cons.1 hp with rfl | hp
        · exact hnew
        · exact (f1 p hp).mono l0 (mle_refl _)
      · exact mdj_un ((f1 p hp).mono l1 (mle_refl _)) (f2 p hp)
    have hsrc : SrcW P W e.sz xt (.slice (some ⟨g, 0, none⟩) 1 c) 1 yc := by
      refine ⟨⟨_, hxt, by simp⟩, by rw [hy.len]; omega, fun W' hW => ?_, fun W' => by simp [Builtin.lenOf]⟩
      have hc2 : cellsAt (wm W') g 0 (1 * e.sz) yc := by
        rw [Nat.one_mul]
        refine hc.mono (fun q o ho => ?_)
        have := hi.at hk q o ho
        unfold wm at this ⊢
        rw [hW]; exact this
      exact firstCells_row hc2
    refine app_wp (i := i) (m := m0) (m0 := m0) he hΩ2 hsv hxv ht hz hzl (by simp [cget]) (mle_refl _) hA hsrc hy.nice hml hb hb0 fun v' m' W' hA' hi' => ?_
    have hc' : cset ((i, m0) :: (j, mun m1 mj) :: cdel (cdel Ω i) j) i m' = (i, m') :: (j, mun m1 mj) :: cdel (cdel Ω i) j := by simp [cset]
    rw [hc'] at hi'
    have hdj : mdj m' (mun m1 mj) := (List.pairwise_cons.1 hi'.dj).1 _ (.head _)
    have hall : OwAll (Ow e) (mun m1 mj) (rc ++ yc) (xs ++ [y]) := OwAll.app d1j (mle_un_left _ _) (mle_un_right d1j) hL (.one hy (mle_refl _))
    have how : Ow (.sl e) (mun m' (mun m1 mj)) [v'] (xs ++ [y]) := ⟨v', m', mun m1 mj, rc ++ yc, rfl, hdj, mle_un_left _ _, mle_un_right hdj, by simpa using hA', hall⟩
    refine hK v' ((i, mun m' (mun m1 mj)) :: cdel (cdel Ω i) j) W' ⟨_, how, rfl⟩ ?_
    refine ⟨hi'.os, hi'.tape, hi'.output, hi'.size, fun p hp => ?_, List.pairwise_cons.2 ⟨fun p hp => ?_, (List.pairwise_cons.1 (List.pairwise_cons.1 hi'.dj).2).2⟩⟩
    · rcases List.mem_cons.1 hp with rfl | hp
      · exact mun_le (hi'.le (i, m') (.head _)) (hi'.le (j, mun m1 mj) (.tail _ (.head _)))
      · exact hi'.le p (.tail _ (.tail _ hp))
    · exact mdj_un ((List.pairwise_cons.1 hi'.dj).1 p (.tail _ hp)) ((List.pairwise_cons.1 (List.pairwise_cons.1 hi'.dj).2).1 p hp)
theorem VD.appO {tt q : Nat} {ss : List (Nat × Bool)} {ΩS : Ctx} {ty : TypeId} {pos : String} {af : Array Edge} {e : Ty} {s x : Operand} {t xt et xe : TypeId} {b dd g c : Nat} {v : Value} {xs : List e.Den} {y : e.Den} {yc z : List Value} (i j k : Nat) {m mj mk : Mem} (hd : Nat.blt dd n = true) (ho : ops[q]? = some ⟨some dd, .call { callee := .builtin .append, args := [s, x].toArray, argTypes := [t, xt].toArray }, ty, pos, af, none⟩) (hsv : ev σ s = some v) (hxv : ev σ x = some (.slice (some ⟨g, 0, none⟩) 1 c)) (ht : tsl P t = some (et, e.sz, b)) (hz : tz P et = some z) (hzl : z.length = e.sz)
    (hm : cget Ω i = some m) (hj : cget (cdel Ω i) j = some mj) (hk : cget Ω k = some mk) (hown : Ow (.sl e) m [v] xs) (hy : Ow e mj yc y) (hxt : P.underlying xt = some (.slice xe)) (hc : cellsAt mk g 0 e.sz yc) (hml : xs.length + 1 ≤ maxLen) (hb : (xs.length + 1) * b ≤ 140737488355328) (hb0 : b ≠ 0) (hS : ∀ m' W, Inv w0 ((i, m') :: cdel (cdel Ω i) j) W → Inv w0 ΩS W)
    (h : ∀ v' m', Ow (.sl e) m' [v'] (xs ++ [y]) → VD P n w0 ops ΩS tt ss ((dd, v') :: σ) ((i, m') :: cdel (cdel Ω i) j) K) : VD P n w0 ops ΩS tt ((q, false) :: ss) σ Ω K :=
  VD.s (fun v => (dd, v) :: σ) ho (fun v _ he => he.put hd v) (.inl rfl) (Stp.appO i j k hsv hxv ht hz hzl hm hj hk hown hy hxt hc hml hb hb0) (fun _ _ ⟨m', _, hΩ⟩ W hW => hS m' W (by subst hΩ; exact hW)) (fun v _ ⟨m', hp, hΩ⟩ => hΩ ▸ h v m' hp)
end
end
section
/-- the machine, or a round of loop record l. -/
def fen (ρ : Option Nat) : Fence := { Fence.wide with round := ρ }
/-- the marks of the block that gathers rounds' deferred calls. -/
def dl : Option Nat → List Deferred
  | none => []
  | some D => [{ target := .collected D, args := #[] }]
def wd (a : Act) (D : List Deferred) : Act := { a with defers := a.defers ++ D }
theorem wd_eval (a : Act) (D : List Deferred) : (wd a D).eval = a.eval := by funext x; cases x <;> rfl
theorem wd_put (a : Act) (D : List Deferred) (dst : Option Tmp) (v : Value) : (wd a D).put dst v = wd (a.put dst v) D := by cases dst <;> rfl
theorem wd_tmps (a : Act) (D : List Deferred) : (wd a D).tmps = a.tmps := rfl
def noDefer (ops : Array Oper) : Bool := ops.all fun o => match o.op with
  | .defer _ => false
  | _ => true
theorem rows_in {P : Program} {ρ : Option Nat} {m : Nat} {row : String} {args : Array Value} {w : World} {R : Value → World → Prop} (h : Rows P row args w R) : RowsIn (fen ρ) m P row args w R := fun c cs _ =>
  let ⟨v, w', r, s⟩ := h c cs
  ⟨v, w', r, stepsIn_wide.2 s⟩
/-- Operations go in a round, and with marks, as anywhere. -/
theorem ops_in {P : Program} {ρ : Option Nat} {m : Nat} {ops : Array Oper} {Q Q' : Exit → Act → World → Prop} {D : List Deferred} (hd : noDefer ops = true) (hp : ∀ c a w, ¬ Q (.panic c) a w) (ho : ∀ a w, ¬ Q .outgrown a w)
    (hQ : ∀ a w, Q .normal a w → Q' .normal (wd a D) w) : ∀ (l : List Nat) (a : Act) (w : World), wpOps P ops Q l a w → wpOpsIn (fen ρ) m P ops Q' l (wd a D) w
  | [], a, w, h => hQ a w h
  | i :: rest, a, w, h => by
    have ih := ops_in (P := P) (ρ := ρ) (m := m) hd hp ho hQ rest
    simp only [wpOps] at h
    simp only [wpOpsIn]
    cases hi : ops[i]? with
    | none => rw [hi] at h; exact ih a w h
    | some o =>
      rw [hi] at h
      dsimp only at h ⊢
      rw [wd_tmps]
      by_cases hw : Region.wanted o (yielded ops a.tmps) = true
      · rw [if_pos hw] at h ⊢
        have h := h.resolve_right fun q => by obtain ⟨a', w', hq⟩ := q.2; exact ho _ _ hq
        have hnd : ∀ c, o.op ≠ .defer c := fun c e => by
          have hm := Array.mem_of_getElem? hi
          have := (Array.all_eq_true_iff_forall_mem.1 hd) o hm
          rw [e] at this; cases this
        refine ⟨fun _ _ => trivial, ?_⟩
        rw [Oper.semAt_eq _ _ _ hnd, wd_eval]
        unfold Oper.wp at h
        generalize (execOp a.eval o).run P w = r at h ⊢
        cases r with
        | ok n w' =>
          cases n with
          | value v => show wpOpsIn _ _ _ _ _ _ _ _; rw [wd_put]; exact ih _ _ h
          | skip => show wpOpsIn _ _ _ _ _ _ _ _; rw [wd_put]; exact ih _ _ h
          | enter f args =>
            refine ⟨fun q => (by cases q), ?_⟩
            have h' : CallsIn Fence.wide (m - 1) P f args w' _ := callsIn_wide.2 h
            refine CallsIn.mono (show CallsIn (fen ρ) (m - 1) P f args w' _ from h') ?_
            intro e w'' hr
            cases e with
            | returned v => show wpOpsIn _ _ _ _ _ _ _ _; rw [wd_put]; exact ih _ _ hr
            | panicked c => exact absurd hr (hp _ _ _)
            | outgrown => obtain ⟨a', w3, hq⟩ := hr; exact absurd hq (ho _ _)
          | row row args =>
            refine ⟨fun q => (by cases q), RowsIn.mono (rows_in h) fun v w'' hr => ?_⟩
            rw [wd_put]; exact ih _ _ hr
          | defer d =>
            show wpOpsIn _ _ _ _ _ _ _ _
            have e : ({ wd a D with defers := d :: (wd a D).defers } : Act) = wd { a with defers := d :: a.defers } D := rfl
            rw [e, wd_put]; exact ih _ _ h
          | _ => exact h.elim
        | halt e w' =>
          cases e with
          | panic v => exact absurd h (hp _ _ _)
          | _ => exact h.elim
      · rw [if_neg hw] at h ⊢
        refine ⟨fun _ _ => trivial, ?_⟩
        rw [wd_put]; exact ih _ _ h
section
variable (P : Program) (n : Nat) (w0 : World)
/-- Code, in a round or not (ρ), with a mark or none (d). -/
def VX (ρ : Option Nat) (c : Code) (R : Option Nat → Exit → Env → Ctx → Prop) (d : Option Nat) (σ : Env) (Ω : Ctx) : Prop :=
  ∀ Q : Exit → Act → World → Prop, (∀ d' e σ' Ω' a W, R d' e σ' Ω' → EnvOk n σ' a → Inv w0 Ω' W → Q e (wd a (dl d')) W) → ∀ a W, EnvOk n σ a → Inv w0 Ω W → c.wpIn (fen ρ) 0 P Q (wd a (dl d)) W
end
@[reducible] def thenX (k : Option Nat → Env → Ctx → Prop) (R : Option Nat → Exit → Env → Ctx → Prop) : Option Nat → Exit → Env → Ctx → Prop := fun d => thenR (k d) (R d)
@[reducible] def blkX (id : Nat) (R : Option Nat → Exit → Env → Ctx → Prop) : Option Nat → Exit → Env → Ctx → Prop := fun d => inBlk id (R d)
section
variable {P : Program} {n : Nat} {w0 : World} {σ : Env} {Ω : Ctx} {ρ d : Option Nat} {R : Option Nat → Exit → Env → Ctx → Prop}
theorem wpOps_list {ops : Array Oper} {Q : Exit → Act → World → Prop} : ∀ (l : List Oper) (k : Nat) (a : Act) (W : World), (∀ j o, l[j]? = some o → ops[k + j]? = some o) → wpList P ops Q l a W → wpOps P ops Q (List.range' k l.length) a W
  | [], _, _, _, _, h => h
  | o :: l, k, a, W, hl, h => by
    have h0 : ops[k]? = some o := hl 0 o rfl
    rw [List.length_cons, List.range'_succ]
    unfold wpOps
    rw [h0]
    unfold wpList at h
    have ih := fun a W => wpOps_list (Q := Q) l (k + 1) a W (fun j o' h' => by have := hl (j + 1) o' h'; rwa [show k + (j + 1) = k + 1 + j by omega] at this)
    dsimp only
    split
    · rename_i hw; rw [if_pos hw] at h; exact h.imp (Oper.wp_mono ih) id
    · rename_i hw; rw [if_neg hw] at h; exact ih _ _ h
/-- what VO says, without panics. -/
theorem VO.ops {ops : Array Oper} {K : Env → Ctx → Prop} {l : List Oper} (h : VO P n w0 ops l σ Ω K) {a : Act} {W : World} (he : EnvOk n σ a) (hi : Inv w0 Ω W) :
    wpList P ops (fun e a W => e = .normal ∧ ∃ σ' Ω', K σ' Ω' ∧ EnvOk n σ' a ∧ Inv w0 Ω' W) l a W :=
  h _ (fun σ' Ω' a W hk he hi => ⟨rfl, σ', Ω', hk, he, hi⟩) a W he hi
theorem VX.reg {id : Nat} {l : List Oper} (h : VO P n w0 l.toArray l σ Ω (R d .normal)) (hnd : noDefer l.toArray = true := by kernel_rfl) : VX P n w0 ρ (.region id l.toArray false) R d σ Ω :=
  fun Q hQ a W he hi => wpIn_region (by
    have h1 := wpOps_list l 0 a W (fun j o h' => by simpa using h') (h.ops he hi)
    rw [show List.range l.toArray.size = List.range' 0 l.length by rw [List.size_toArray, List.range_eq_range']]
    exact ops_in hnd (fun _ _ _ q => by cases q.1) (fun _ _ q => by cases q.1) (fun a w ⟨_, σ', Ω', hk, he, hi⟩ => hQ _ _ σ' Ω' a w hk he hi) _ a W h1)
theorem VX.seq {x y : Code} (h : VX P n w0 ρ x (thenX (fun d σ' Ω' => VX P n w0 ρ y R d σ' Ω') R) d σ Ω) : VX P n w0 ρ (.seq x y) R d σ Ω :=
  fun Q hQ a W he hi => wpIn_seq (h (Exit.then (y.wpIn (fen ρ) 0 P Q) Q) (fun d' e σ' Ω' a W hr he hi => by
    cases e with
    | normal => exact hr Q hQ a W he hi
    | exit id => exact hQ _ _ σ' Ω' a W hr he hi
    | goto l => exact hQ _ _ σ' Ω' a W hr he hi
    | ret => exact hQ _ _ σ' Ω' a W hr he hi
    | panic ch => exact hQ _ _ σ' Ω' a W hr he hi
    | outgrown => exact hQ _ _ σ' Ω' a W hr he hi) a W he hi)
theorem VX.rs {id : Nat} {l : List Oper} {y : Code} (h : VO P n w0 l.toArray l σ Ω (fun σ' Ω' => VX P n w0 ρ y R d σ' Ω')) (hnd : noDefer l.toArray = true := by kernel_rfl) : VX P n w0 ρ (.seq (.region id l.toArray false) y) R d σ Ω :=
  VX.seq (VX.reg h hnd)
theorem VX.skip (h : R d .normal σ Ω) : VX P n w0 ρ .skip R d σ Ω := fun _ hQ a W he hi => wpIn_skip (hQ _ _ σ Ω a W h he hi)
theorem VX.exit {id : Nat} (h : R d (.exit id) σ Ω) : VX P n w0 ρ (.exit id) R d σ Ω := fun _ hQ a W he hi => wpIn_exit (hQ _ _ σ Ω a W h he hi)
theorem VX.ret (h : R d .ret σ Ω) : VX P n w0 ρ .ret R d σ Ω := fun _ hQ a W he hi => wpIn_ret (hQ _ _ σ Ω a W h he hi)
theorem VX.block {id : Nat} {c : Code} (h : VX P n w0 ρ c (blkX id R) d σ Ω) : VX P n w0 ρ (.block id c) R d σ Ω :=
  fun Q hQ a W he hi => wpIn_block (h (Exit.inBlock id Q) (fun d' e σ' Ω' a W hr he hi => by
    cases e with
    | exit i =>
      show if i = id then Q .normal _ W else Q (.exit i) _ W
      change cond (Nat.beq i id) (R d' .normal) (R d' (.exit i)) σ' Ω' at hr
      cases hb : Nat.beq i id with
      | true =>
        rw [if_pos (Nat.eq_of_beq_eq_true hb)]
        rw [hb] at hr
        exact hQ _ _ σ' Ω' a W hr he hi
      | false =>
        rw [if_neg (Nat.ne_of_beq_eq_false hb)]
        rw [hb] at hr
        exact hQ _ _ σ' Ω' a W hr he hi
    | normal => exact hQ _ _ σ' Ω' a W hr he hi
    | goto l => exact hQ _ _ σ' Ω' a W hr he hi
    | ret => exact hQ _ _ σ' Ω' a W hr he hi
    | panic ch => exact hQ _ _ σ' Ω' a W hr he hi
    | outgrown => exact hQ _ _ σ' Ω' a W hr he hi) a W he hi)
theorem VX.condT {c : Operand} {x y : Code} (hc : ev σ c = some (.bool true)) (h : VX P n w0 ρ x R d σ Ω) : VX P n w0 ρ (.cond c x y) R d σ Ω :=
  fun Q hQ a W he hi => wpIn_cond_true (by rw [wd_eval]; exact he.eval hc) (h Q hQ a W he hi)
theorem VX.condF {c : Operand} {x y : Code} (hc : ev σ c = some (.bool false)) (h : VX P n w0 ρ y R d σ Ω) : VX P n w0 ρ (.cond c x y) R d σ Ω :=
  fun Q hQ a W he hi => wpIn_cond_false (by rw [wd_eval]; exact he.eval hc) (h Q hQ a W he hi)
theorem VX.condB {c : Operand} {x y : Code} {b : Bool} (hc : ev σ c = some (.bool b)) (h1 : b = true → VX P n w0 ρ x R d σ Ω) (h2 : b = false → VX P n w0 ρ y R d σ Ω) : VX P n w0 ρ (.cond c x y) R d σ Ω := by
  cases b
  · exact VX.condF hc (h2 rfl)
  · exact VX.condT hc (h1 rfl)
theorem VX.cond {c : Operand} {x y : Code} {p : Prop} [Decidable p] (hc : ev σ c = some (.bool (decide p))) (h1 : p → VX P n w0 ρ x R d σ Ω) (h2 : ¬ p → VX P n w0 ρ y R d σ Ω) : VX P n w0 ρ (.cond c x y) R d σ Ω :=
  VX.condB hc (fun h => h1 (of_decide_eq_true h)) (fun h => h2 (of_decide_eq_false h))
theorem VX.condBN {c : Operand} {x y : Code} {b : Bool} (hc : ev σ c = some (.bool (!b))) (h1 : b = false → VX P n w0 ρ x R d σ Ω) (h2 : b = true → VX P n w0 ρ y R d σ Ω) : VX P n w0 ρ (.cond c x y) R d σ Ω := by
  cases b
  · exact VX.condT hc (h1 rfl)
  · exact VX.condF hc (h2 rfl)
theorem VX.condKT {c : Operand} {x y : Code} {b : Bool} (hc : ev σ c = some (.bool b)) (hb : b = true) (h : VX P n w0 ρ x R d σ Ω) : VX P n w0 ρ (.cond c x y) R d σ Ω := VX.condT (by rw [hc, hb]) h
theorem VX.condKF {c : Operand} {x y : Code} {b : Bool} (hc : ev σ c = some (.bool b)) (hb : b = false) (h : VX P n w0 ρ y R d σ Ω) : VX P n w0 ρ (.cond c x y) R d σ Ω := VX.condF (by rw [hc, hb]) h
theorem VX.inv {c : Code} (Ω' : Ctx) (hs : ∀ W, Inv w0 Ω W → Inv w0 Ω' W) (h : VX P n w0 ρ c R d σ Ω') : VX P n w0 ρ c R d σ Ω :=
  fun Q hQ a W he hi => h Q hQ a W he (hs W hi)
theorem VX.esub {c : Code} (σ' : Env) (hs : Go.Proofs.Ytdoamgdanlnlfaa.esub σ' σ) (h : VX P n w0 ρ c R d σ' Ω) : VX P n w0 ρ c R d σ Ω :=
  fun Q hQ a W he hi => h Q hQ a W (he.sub hs) hi
theorem VX.gather {c : Code} (k : Nat) (ids : List Nat) {l : List Mem} (hg : cgets Ω ids = some l) (h : Seps (muns l) l → VX P n w0 ρ c R d σ ((k, muns l) :: cdels Ω ids)) : VX P n w0 ρ c R d σ Ω :=
  fun Q hQ a W he hi => h (hi.gather k hg).2 Q hQ a W he (hi.gather k hg).1
theorem VX.parts {c : Code} (i : Nat) (ids : List Nat) {m : Mem} {l : List Mem} (hm : cget Ω i = some m) (hl : Seps m l) (h : VX P n w0 ρ c R d σ (ids.zip l ++ cdel Ω i)) : VX P n w0 ρ c R d σ Ω :=
  VX.inv _ (fun W hW => hW.parts hm hl ids) h
theorem VX.clsP {c : Code} (k : Nat) (ids : List Nat) {l : List Mem} (hg : cgets Ω ids = some l) {e : Ty} {v : Value} {x : Nat × e.Den} (hp : Seps (muns l) l → Ow (.ptr e) (muns l) [v] x) (h : ∀ M, Ow (.ptr e) M [v] x → VX P n w0 ρ c R d σ ((k, M) :: cdels Ω ids)) : VX P n w0 ρ c R d σ Ω :=
  VX.gather k ids hg fun hS => h _ (hp hS)
theorem VX.loop {G : Type} {c : Code} (S : G → Env) (C : G → Ctx) (I : G → Prop) (μ : G → Nat) (g0 : G) (h0 : I g0) (h1 : To w0 (S g0) (C g0) σ Ω)
    (round : ∀ g, I g → VX P n w0 ρ c (thenX (fun d' σ' Ω' => d' = d ∧ ∃ g', I g' ∧ μ g' < μ g ∧ To w0 (S g') (C g') σ' Ω') R) d (S g) (C g)) : VX P n w0 ρ (.loop c) R d σ Ω :=
  fun Q hQ a W he hi => wpIn_loop (fun a W => ∃ k, ∃ g b, I g ∧ μ g = k ∧ EnvOk n (S g) b ∧ Inv w0 (C g) W ∧ a = wd b (dl d)) (fun a W => leastOf (fun k => ∃ g b, I g ∧ μ g = k ∧ EnvOk n (S g) b ∧ Inv w0 (C g) W ∧ a = wd b (dl d)))
    ⟨μ g0, g0, a, h0, rfl, he.sub h1.env, h1.inv W hi, rfl⟩ (by
    intro a W hI
    obtain ⟨hsp, hmin⟩ := leastOf_spec hI
    obtain ⟨g, b, hg, hm, he, hi, rfl⟩ := hsp
    refine round g hg _ (fun d' e σ' Ω' a' W' hr he hi => ?_) b W he hi
    cases e with
    | normal =>
      obtain ⟨rfl, g', hI', hlt, ht⟩ := hr
      have h2 : ∃ k, ∃ g b, I g ∧ μ g = k ∧ EnvOk n (S g) b ∧ Inv w0 (C g) W' ∧ wd a' (dl d') = wd b (dl d') := ⟨μ g', g', a', hI', rfl, he.sub ht.env, ht.inv W' hi, rfl⟩
      exact ⟨h2, Nat.lt_of_le_of_lt ((leastOf_spec h2).2 _ ⟨g', a', hI', rfl, he.sub ht.env, ht.inv W' hi, rfl⟩) (by omega)⟩
    | exit id => exact hQ _ _ σ' Ω' a' W' hr he hi
    | goto l => exact hQ _ _ σ' Ω' a' W' hr he hi
    | ret => exact hQ _ _ σ' Ω' a' W' hr he hi
    | panic ch => exact hQ _ _ σ' Ω' a' W' hr he hi
    | outgrown => exact hQ _ _ σ' Ω' a' W' hr he hi)
end
section
variable {P : Program} {n : Nat} {w0 : World} {σ : Env} {Ω : Ctx} {ρ d : Option Nat} {R : Option Nat → Exit → Env → Ctx → Prop}
theorem VX.regD {id : Nat} {l : List Oper} (ΩS : Ctx) (t : Nat) (sched : List (Nat × Bool)) (hm : P.follows .mixedOrders = true) (hs : okSched l.toArray t sched = true) (hΩ : ∀ W, Inv w0 Ω W → Inv w0 ΩS W)
    (h : VD P n w0 l.toArray ΩS t sched σ Ω (R d .normal)) (hnd : noDefer l.toArray = true := by kernel_rfl) : VX P n w0 ρ (.region id l.toArray true) R d σ Ω :=
  fun Q hQ a W he hi => by
    unfold okSched at hs
    simp only [Bool.and_eq_true, Bool.or_eq_true] at hs
    obtain ⟨⟨⟨h0, h1⟩, h2⟩, h3⟩ := hs
    have h4 : t < l.toArray.size → Region.sinkB .any l.toArray t = true ∧ Region.chainB .any l.toArray t = true := fun hlt => by
      rcases h2 with h2 | h2
      · have := Nat.le_of_ble_eq_true h2; omega
      · exact h2
    let Q' : Exit → Act → World → Prop := fun e a w => e = .normal ∧ ∃ σ' Ω', R d .normal σ' Ω' ∧ EnvOk n σ' a ∧ Inv w0 Ω' w
    have := h Q' (fun _ _ _ hq => by cases hq.1) (fun σ' Ω' a W hk he hi => ⟨rfl, σ', Ω', hk, he, hi⟩) (Array.replicate l.toArray.size false) a W.drew he hi.drew (hΩ W hi).drew.cur h3 (HeadInv.start _ _) h1 h4
    rw [Nat.eq_of_beq_eq_true h0] at this
    have hA := wpAny_of_T (S := fun L w => Inv w0 (curS l.toArray ΩS L) w) (t := t) _ _ _ _ this
    refine wpIn_region_draw fun t' => ops_in hnd (Q := Q') (fun _ _ _ q => by cases q.1) (fun _ _ q => by cases q.1) (fun a w ⟨_, σ', Ω', hk, he, hi⟩ => hQ _ _ σ' Ω' a w hk he hi) _ a _ ?_
    simp only [Region.schedule, hm, Bool.true_or, if_true]
    exact wpAny_sound _ t' _ a _ hA
def retX (P : Program) (n : Nat) (w0 : World) (fn : Func) (m : Mem) (Post : Value → Mem → Prop) : Option Nat → Exit → Env → Ctx → Prop
  | none => retR P n w0 fn m Post
  | some D => fun e σ Ω => ∃ j, cget Ω j = some (mone D (.deferred (some []))) ∧ retR P n w0 fn m Post e σ (cdel Ω j)
theorem put_le {m : Mem} {W : World} {L : Nat} {o : Obj} (h : mle m (wm W)) (hd : m L = none) : mle m (wm (W.putObj L o)) := fun g x e => by
  have hne : g ≠ L := fun q => by subst q; rw [hd] at e; cases e
  show (W.putObj L o).heap[g]? = some x
  rw [World.putObj_heap_other hne]; exact h g x e
theorem put_one {W : World} {L : Nat} {o o' : Obj} (h : mle (mone L o') (wm W)) : mle (mone L o) (wm (W.putObj L o)) :=
  mone_le (World.putObj_heap_same (Array.getElem?_eq_some_iff.1 (h L o' (mone_self _ _))).1)
theorem mdj_mone {L : Nat} {o : Obj} {m : Mem} (h : mdj (mone L o) m) : m L = none := (h L).resolve_left (by simp [mone_self])
theorem mdj_swap {L : Nat} {o o' : Obj} {m : Mem} (h : mdj (mone L o) m) : mdj (mone L o') m := fun g => by
  by_cases e : g = L
  · subst e; exact .inr (mdj_mone h)
  · exact .inl (mone_ne _ e)
theorem CallR.ofX {f : FuncId} {fn : Func} {c : Code} {args : List Value} {W : World} {m : Mem} {Post : Value → Mem → Prop} (hf : P.funcs[f]? = some fn) (hb : fn.body = some c) (hn : fn.ntmps = n)
    (hsz : Nat.ble args.length n = true) (hm : mle m (wm W)) (h : VX P n W none c (retX P n W fn m Post) none (zipE 0 args) [(0, mout (wm W) m), (1, m)]) : CallR P f args W m Post := by
  have hlen : args.length ≤ n := by simpa using hsz
  refine callsIn_wide.1 (callsIn_of_wp_marks (F := fen none) (n := 0) hf hb trivial ?_)
  have key : ∀ (v : Value) (m' : Mem) (W' : World), W'.os = W.os → W'.tape = W.tape → W'.output = W.output → W.heap.size ≤ W'.heap.size → Post v m' → mle (mout (wm W) m) (wm W') → mle m' (wm W') → mdj m' (mout (wm W) m) → ∃ v' m', (Ending.returned v = .returned v') ∧ Post v' m' ∧ Upd W m W' m' :=
    fun v m' W' o1 o2 o3 o4 h2 k1 k2 k3 => ⟨v, m', rfl, h2, o1, o2, o3, o4, k1, k2, fun g => by
      rcases k3 g with h | h
      · exact .inl h
      · refine .inr ?_
        unfold mout wm at h
        split at h
        · rename_i o ho; exact .inl (by rw [ho]; simp)
        · exact .inr (Array.getElem?_eq_none_iff.1 h)⟩
  have := h (bodyPostM (fen none) 0 P fn fun e W' => ∃ v m', e = .returned v ∧ Post v m' ∧ Upd W m W' m') (fun d' e σ' Ω' a W' hr he hi => ?_) { tmps := args.toArray ++ Array.replicate (fn.ntmps - args.toArray.size) undef, defers := [] } W ⟨?_, rfl, fun t v hv => ?_⟩ ⟨rfl, rfl, rfl, Nat.le_refl _, ?_, ?_⟩
  · exact this
  · have hre : e = .ret ∨ e = .normal := by
      cases d' with
      | none => cases e <;> first | exact .inl rfl | exact .inr rfl | exact hr.elim
      | some D => obtain ⟨_, _, hr⟩ := hr; cases e <;> first | exact .inl rfl | exact .inr rfl | exact hr.elim
    have goal : LeavesInM (fen none) 0 P fn (wd a (dl d')).tmps (fun e W' => ∃ v m', e = .returned v ∧ Post v m' ∧ Upd W m W' m') (wd a (dl d')).defers .returning W' := by
      cases d' with
      | none =>
        have hd : (wd a (dl none)).defers = [] := by show a.defers ++ [] = []; rw [he.defers]; rfl
        rw [hd]
        have hr' : retR P n W fn m Post .ret σ' Ω' := by rcases hre with rfl | rfl <;> exact hr
        obtain ⟨v, m', h1, h3⟩ := hr'
        obtain ⟨h2, k1, k2, k3⟩ := h3 W' hi
        exact ⟨v, h1 a W' he hi, key v m' W' hi.os hi.tape hi.output hi.size h2 k1 k2 k3⟩
      | some D =>
        have hd : (wd a (dl (some D))).defers = [{ target := .collected D, args := #[] }] := by show a.defers ++ _ = _; rw [he.defers]; rfl
        rw [hd]
        obtain ⟨j, hj, hr⟩ := hr
        have hr' : retR P n W fn m Post .ret σ' (cdel Ω' j) := by rcases hre with rfl | rfl <;> exact hr
        have hD : W'.heap[D]? = some (.deferred (some [])) := hi.at hj D _ (mone_self _ _)
        have hi2 : Inv W (cdel Ω' j) (W'.putObj D (.deferred none)) := by
          obtain ⟨g1, g2⟩ := cdel_dj hj hi.dj
          exact ⟨hi.os, hi.tape, hi.output, by rw [World.putObj_size]; exact hi.size, fun p hp => put_le (hi.le p (cdel_mem hp)) (mdj_mone (g1 p hp)), g2⟩
        obtain ⟨v, m', h1, h3⟩ := hr'
        obtain ⟨h2, k1, k2, k3⟩ := h3 _ hi2
        exact ⟨by simp, .inl ⟨D, _, rfl, run_takeDeferred hD, v, h1 a _ he hi2, key v m' _ hi2.os hi2.tape hi2.output hi2.size h2 k1 k2 k3⟩⟩
    rcases hre with rfl | rfl <;> exact goal
  · simp [hn]; omega
  · obtain ⟨_, h2⟩ := zipE_get hv
    have hlt : t < args.length := by
      have := (List.getElem?_eq_some_iff.1 h2).1; omega
    have h3 : (args.toArray ++ Array.replicate (fn.ntmps - args.toArray.size) undef)[t]? = some v := by
      rw [Array.getElem?_append_left (by simpa using hlt)]; simpa using h2
    simp only [Array.getD_eq_getD_getElem?, h3, Option.getD_some]
  · intro p hp
    rcases List.mem_cons.1 hp with rfl | hp
    · exact mout_le _ _
    · rcases List.mem_cons.1 hp with rfl | hp
      · exact hm
      · cases hp
  · refine List.pairwise_cons.2 ⟨fun p hp => ?_, List.pairwise_cons.2 ⟨fun p hp => ?_, List.Pairwise.nil⟩⟩
    · rcases List.mem_cons.1 hp with rfl | hp
      · exact mdj_out _ _
      · cases hp
    · cases hp
theorem CallR.ofXA {f : FuncId} {fn : Func} {c : Code} {args : List Value} {W : World} {Post : Value → Mem → Prop} (hf : P.funcs[f]? = some fn) (hb : fn.body = some c) (hn : fn.ntmps = n)
    (hsz : Nat.ble args.length n = true) (h : VX P n W none c (retX P n W fn mnil Post) none (zipE 0 args) [(0, wm W)]) : CallR P f args W mnil Post :=
  CallR.ofX hf hb hn hsz (mle_nil _) (VX.inv [(0, wm W)] (fun W' h' => ⟨h'.os, h'.tape, h'.output, h'.size, fun p hp => h'.le p (by simp at hp; subst hp; exact .head _), List.pairwise_singleton _ _⟩) h)
end
def YldR (P : Program) (l : Nat) (args : List Value) (W : World) (m : Mem) (Post : Value → Mem → Prop) : Prop :=
  YieldAt Fence.wide 0 P l args.toArray W fun e W' => ∃ v m', e = .returned v ∧ Post v m' ∧ Upd W m W' m'
section
variable (P : Program) (n : Nat) (w0 : World)
/-- Operations of which one may call yield (outside rounds, without marks). -/
def VL (ops : Array Oper) (l : List Nat) (σ : Env) (Ω : Ctx) (K : Env → Ctx → Prop) : Prop :=
  ∀ Q : Exit → Act → World → Prop, (∀ σ' Ω' a W, K σ' Ω' → EnvOk n σ' a → Inv w0 Ω' W → Q .normal a W) → ∀ a W, EnvOk n σ a → Inv w0 Ω W → wpOpsIn (fen none) 0 P ops Q l a W
end
section
variable {P : Program} {n : Nat} {w0 : World} {σ : Env} {Ω : Ctx} {ops : Array Oper} {K : Env → Ctx → Prop} {R : Option Nat → Exit → Env → Ctx → Prop}
theorem wd_nil (a : Act) : wd a [] = a := by cases a; simp [wd]
theorem ops_pre {Q Q' : Exit → Act → World → Prop} (hd : noDefer ops = true) (hp : ∀ c a w, ¬ Q (.panic c) a w) (ho : ∀ a w, ¬ Q .outgrown a w) {r : List Nat}
    (hQ : ∀ a w, Q .normal a w → wpOpsIn (fen none) 0 P ops Q' r a w) : ∀ (l : List Nat) (a : Act) (w : World), wpOps P ops Q l a w → wpOpsIn (fen none) 0 P ops Q' (l ++ r) a w
  | [], a, w, h => hQ a w h
  | i :: rest, a, w, h => by
    have ih := ops_pre hd hp ho hQ rest
    simp only [wpOps] at h
    simp only [wpOpsIn, List.cons_append]
    cases hi : ops[i]? with
    | none => rw [hi] at h; exact ih a w h
    | some o =>
      rw [hi] at h
      dsimp only at h ⊢
      by_cases hw : Region.wanted o (yielded ops a.tmps) = true
      · rw [if_pos hw] at h ⊢
        have h := h.resolve_right fun q => by obtain ⟨a', w', hq⟩ := q.2; exact ho _ _ hq
        refine ⟨fun _ _ => trivial, ?_⟩
        rw [show (fen none).round = none from rfl, Oper.semAt_none]
        unfold Oper.wp at h
        generalize (execOp a.eval o).run P w = q at h ⊢
        cases q with
        | ok n w' =>
          cases n with
          | value v => exact ih _ _ h
          | skip => exact ih _ _ h
          | enter f args =>
            refine ⟨fun q => (by cases q), CallsIn.mono (callsIn_wide.2 h) ?_⟩
            intro e w'' hr
            cases e with
            | returned v => exact ih _ _ hr
            | panicked c => exact absurd hr (hp _ _ _)
            | outgrown => obtain ⟨a', w3, hq⟩ := hr; exact absurd hq (ho _ _)
          | row row args => exact ⟨fun q => (by cases q), RowsIn.mono (rows_in (ρ := none) h) fun v w'' hr => ih _ _ hr⟩
          | defer d => exact ih _ _ h
          | _ => exact h.elim
        | halt e w' =>
          cases e with
          | panic v => exact absurd h (hp _ _ _)
          | _ => exact h.elim
      · rw [if_neg hw] at h ⊢
        exact ⟨fun _ _ => trivial, ih _ _ h⟩
theorem VL.of {l : List Oper} (k : Nat) (hl : ∀ j o, l[j]? = some o → ops[k + j]? = some o) (hd : noDefer ops = true) {r : List Nat} (h : VO P n w0 ops l σ Ω (fun σ' Ω' => VL P n w0 ops r σ' Ω' K)) : VL P n w0 ops (List.range' k l.length ++ r) σ Ω K :=
  fun Q hQ a W he hi => ops_pre hd (Q := fun e a W => e = .normal ∧ ∃ σ' Ω', VL P n w0 ops r σ' Ω' K ∧ EnvOk n σ' a ∧ Inv w0 Ω' W) (fun _ _ _ q => by cases q.1) (fun _ _ q => by cases q.1) (fun a W ⟨_, σ', Ω', hk, he, hi⟩ => hk Q hQ a W he hi) _ a W (wpOps_list l k a W hl (h.ops he hi))
theorem VL.nil (h : K σ Ω) : VL P n w0 ops [] σ Ω K := fun _ hQ a W he hi => hQ σ Ω a W h he hi
theorem VL.yield {i : Nat} {r : List Nat} {d : Nat} {x : Operand} {xs : List Operand} {ats : Array TypeId} {ty : TypeId} {pos : String} {af : Array Edge} {gd : Option (Nat × Bool)} {l : Nat} {vs : List Value} {m : Mem} {Post : Value → Mem → Prop} (c : Nat)
    (ho : ops[i]? = some ⟨some d, .call { callee := .value x, args := xs.toArray, argTypes := ats }, ty, pos, af, gd⟩) (hd : Nat.blt d n = true) (hg : gd = none ∨ ∃ j b, gd = some (j, b) ∧ gyes σ ops j b) (hx : ev σ x = some (.func (.yield l) #[] #[]))
    (ha : evs σ xs = some vs) (hm : cget Ω c = some m) (hy : ∀ W, Inv w0 Ω W → YldR P l vs W m Post) (h : ∀ v m', Post v m' → VL P n w0 ops r ((d, v) :: σ) (cset Ω c m') K) : VL P n w0 ops (i :: r) σ Ω K :=
  fun Q hQ a W he hi => by
    unfold wpOpsIn
    rw [ho]
    dsimp only
    have hw : Region.wanted ⟨some d, .call { callee := .value x, args := xs.toArray, argTypes := ats }, ty, pos, af, gd⟩ (yielded ops a.tmps) = true := by
      rcases hg with rfl | ⟨j, b, rfl, hj⟩
      · rfl
      · simp [Region.wanted, yielded_of he hj]
    rw [if_pos hw]
    refine ⟨fun _ _ => trivial, ?_⟩
    rw [show (fen none).round = none from rfl, Oper.semAt_none]
    obtain ⟨fn, tmps, assign, body, h1, h2⟩ := hy W hi
    have e : execOp a.eval ⟨some d, .call { callee := .value x, args := xs.toArray, argTypes := ats }, ty, pos, af, gd⟩ = Instr.yield l vs.toArray := by
      have e1 : a.eval x = .func (.yield l) #[] #[] := he.eval hx
      have e2 : #[] ++ xs.toArray.map a.eval ++ #[] = vs.toArray := by rw [← he.evals ha]; simp
      rw [← e2]
      show (do let d ← Deferred.ofValue (a.eval x) (xs.toArray.map a.eval); invoke d.target d.args) = _
      rw [e1]; rfl
    rw [e, h1]
    refine ⟨fun q => (by cases q), RoundIn.mono h2 ?_⟩
    rintro e' W' ⟨v, m', rfl, hp, hu⟩
    exact h v m' hp Q hQ _ W' (he.put hd v) (hi.upd hm hu)
theorem VL.skip {i : Nat} {r : List Nat} {d : Nat} {op : Op} {ty : TypeId} {pos : String} {af : Array Edge} {j : Nat} {b : Bool} (ho : ops[i]? = some ⟨some d, op, ty, pos, af, some (j, b)⟩) (hd : Nat.blt d n = true) (hg : gyes σ ops j (!b)) (h : VL P n w0 ops r ((d, undef) :: σ) Ω K) : VL P n w0 ops (i :: r) σ Ω K :=
  fun Q hQ a W he hi => by
    unfold wpOpsIn
    rw [ho]
    dsimp only
    have hw : ¬ Region.wanted ⟨some d, op, ty, pos, af, some (j, b)⟩ (yielded ops a.tmps) = true := by
      simp [Region.wanted, yielded_of he hg]
    rw [if_neg hw]
    exact ⟨fun _ _ => trivial, h Q hQ _ W (he.put hd _) hi⟩
theorem VX.regL {id : Nat} {l : List Oper} (ix : List Nat) (hix : List.range l.length = ix) (h : VL P n w0 l.toArray ix σ Ω (R none .normal)) : VX P n w0 none (.region id l.toArray false) R none σ Ω :=
  fun Q hQ a W he hi => wpIn_region (by
    rw [List.size_toArray, hix]
    have := h (fun e a W => Q e (wd a []) W) (fun σ' Ω' a W hk he hi => hQ _ _ σ' Ω' a W hk he hi) a W he hi
    rw [show dl none = [] from rfl, wd_nil]
    simpa only [wd_nil] using this)
end
/-- What a function that is ranged over promises, whatever its caller keeps in memory M g: it calls yield with what E says at a, goes on to nx a where yield says so, and ends where Dn says so, or where yield has said 'no more'. -/
def IterOk (P : Program) (gf : FuncId) (caps : List Value) (mo : Mem) {A : Type} (E : A → List Value → Mem → Prop) (nx : A → A) (a0 : A) (Dn : A → Prop) : Prop :=
  ∀ (G : Type) (M : G → Mem) (I : A → G → Prop) (X : G → Prop) (l : Nat) (W : World) (g0 : G), I a0 g0 → mle (mun (M g0) mo) (wm W) → mdj (M g0) mo →
    (∀ a g args mr W', I a g → E a args mr → Inv W [(0, mout (wm W) (mun (M g0) mo)), (1, M g), (2, mr)] W' → YldR P l args W' (mun (M g) mr) (fun v m' => ∃ g', m' = M g' ∧ ((v = .bool true ∧ I (nx a) g') ∨ (v = .bool false ∧ X g')))) →
    CallR P gf (.func (.yield l) #[] #[] :: caps) W (mun (M g0) mo) (fun _ m' => ∃ g', m' = M g' ∧ (X g' ∨ ∃ a, I a g' ∧ Dn a))
theorem Inv.hd {w0 W : World} {Ω : Ctx} {i : Nat} {m : Mem} (h : Inv w0 ((i, m) :: Ω) W) : mle m (wm W) ∧ (∀ p ∈ Ω, mdj m p.2) ∧ Inv w0 Ω W :=
  ⟨h.le _ (.head _), (List.pairwise_cons.1 h.dj).1, h.tl⟩
theorem Inv.mk' {w0 W : World} {Ω : Ctx} {i : Nat} {m : Mem} (h : Inv w0 Ω W) (h1 : mle m (wm W)) (h2 : ∀ p ∈ Ω, mdj m p.2) : Inv w0 ((i, m) :: Ω) W :=
  ⟨h.os, h.tape, h.output, h.size, fun p hp => by rcases List.mem_cons.1 hp with rfl | hp <;> first | exact h1 | exact h.le _ hp, List.pairwise_cons.2 ⟨h2, h.dj⟩⟩
theorem Inv.move {w0 W W' : World} {Ω : Ctx} (h : Inv w0 Ω W) (ho : W'.os = W.os) (ht : W'.tape = W.tape) (hu : W'.output = W.output) (hs : W.heap.size ≤ W'.heap.size) (hl : ∀ p ∈ Ω, mle p.2 (wm W')) : Inv w0 Ω W' :=
  ⟨ho.trans h.os, ht.trans h.tape, hu.trans h.output, Nat.le_trans h.size hs, hl, h.dj⟩
theorem all2 {P : Nat × Mem → Prop} {a : Nat × Mem} {l : Ctx} (h : P a) (h2 : ∀ p ∈ l, P p) : ∀ p ∈ a :: l, P p := fun p hp => by rcases List.mem_cons.1 hp with rfl | hp <;> first | exact h | exact h2 _ hp
/-- jumps that a round leaves. -/
def jumpOf : Exit → Option Code
  | .ret => some .ret
  | .exit id => some (.exit id)
  | _ => none
section
variable {P : Program} {n : Nat} {w0 : World} {σ : Env} {rest : Ctx} {R : Option Nat → Exit → Env → Ctx → Prop}
theorem fold_get : ∀ (p : List Nat) (args : List Value) (t : Array Value), (p.toArray.zip args.toArray).foldl (fun t (q : Nat × Value) => t.setIfInBounds q.1 q.2) t = (p.zip args).foldl (fun t q => t.setIfInBounds q.1 q.2) t := fun p args t => by
  rw [← Array.foldl_toList]; simp
theorem fold_env : ∀ (l : List (Nat × Value)) {σ : Env} {a : Act}, EnvOk n σ a → (∀ q ∈ l, q.1 < n) → EnvOk n (l.reverse ++ σ) { a with tmps := l.foldl (fun t q => t.setIfInBounds q.1 q.2) a.tmps }
  | [], _, _, h, _ => h
  | q :: l, σ, a, h, hl => by
    have h1 := fold_env l (h.put (d := q.1) (by simpa using hl q (.head _)) q.2) fun x hx => hl x (.tail _ hx)
    rw [List.reverse_cons, List.append_assoc]
    exact h1
set_option maxHeartbeats 1000000 in
theorem VX.rangeF {A G : Type} {g : Operand} {p : List Nat} {assign body : Code} {gf : FuncId} {caps : List Value} (i k jD jL jR o : Nat) (M : G → Mem) (I : A → G → Prop) (X : Exit → G → Prop)
    {mo : Mem} {E : A → List Value → Mem → Prop} {nx : A → A} {a0 : A} {Dn : A → Prop} (g0 : G) (h0 : I a0 g0) (hit : ∀ W, Inv w0 ((k, mo) :: (i, M g0) :: rest) W → IterOk P gf caps mo E nx a0 Dn)
    (hg : ev σ g = some (.func (.func gf) #[] caps.toArray)) (hf : fnOk P gf = true) (hp : p.all (Nat.blt · n) = true) (hE : ∀ a args mr, E a args mr → args.length = p.length) (σa : List Value → Env)
    (hassign : ∀ w1 l args Ω, args.length = p.length → VX P n w1 (some l) assign (fun d e σ' Ω' => d = none ∧ e = .normal ∧ Go.Proofs.Ytdoamgdanlnlfaa.esub (σa args) σ' ∧ Ω' = Ω) none ((p.zip args).reverse ++ σ) Ω)
    (hbody : ∀ w1 l D a g args mr ml mo', I a g → E a args mr → VX P n w1 (some l) body (fun d e σ' Ω' => d = none ∧ ∀ W, Inv w1 Ω' W → ∃ g', Inv w1 ((o, mo') :: (jL, ml) :: (i, M g') :: (jD, mone D (.deferred (some []))) :: rest) W ∧
      ((e = .normal ∧ I (nx a) g') ∨ ((jumpOf e).isSome = true ∧ X e g'))) none (σa args) ((jR, mr) :: (o, mo') :: (jL, ml) :: (i, M g) :: (jD, mone D (.deferred (some []))) :: rest))
    (hdone : ∀ D a g, I a g → Dn a → R (some D) .normal σ ((i, M g) :: (jD, mone D (.deferred (some []))) :: rest))
    (hstop : ∀ D e g, X e g → (jumpOf e).isSome = true → R (some D) e σ ((i, M g) :: (jD, mone D (.deferred (some []))) :: rest)) :
    VX P n w0 none (.rangeFunc g p.toArray assign body) R none σ ((k, mo) :: (i, M g0) :: rest) := by
  intro Q hQ a W he hi
  rw [show dl none = [] from rfl, wd_nil]
  refine wpIn_rangeFunc ?_
  intro fn hfn
  obtain ⟨rec, hrec⟩ : ∃ rec : LoopState → Option Code → Loop, rec = fun st pe => { state := st, pending := pe, fn, tmps := a.tmps, params := p.toArray, assign, body, defers := W.heap.size } := ⟨_, rfl⟩
  obtain ⟨W1, hW1⟩ : ∃ W1, (W.alloc (.deferred (some []))).alloc (.loop (rec .ready none)) = W1 := ⟨_, rfl⟩
  obtain ⟨D, hD⟩ : ∃ D, D = W.heap.size := ⟨_, rfl⟩
  obtain ⟨L, hL⟩ : ∃ L, L = W.heap.size + 1 := ⟨_, rfl⟩
  have hi1 : Inv w0 ((jL, mone L (.loop (rec .ready none))) :: (jD, mone D (.deferred (some []))) :: (k, mo) :: (i, M g0) :: rest) W1 := by
    have h1 := (hi.alloc jD (.deferred (some []))).alloc jL (.loop (rec .ready none))
    rw [World.size_alloc] at h1
    rw [← hW1, hL, hD]; exact h1
  obtain ⟨l1, d1, hi2⟩ := hi1.hd
  obtain ⟨l2, d2, hi3⟩ := hi2.hd
  obtain ⟨l3, d3, hi4⟩ := hi3.hd
  obtain ⟨l4, d4, hi5⟩ := hi4.hd
  have dLD : mdj (mone L (.loop (rec .ready none))) (mone D (.deferred (some []))) := d1 _ (.head _)
  have dLo : mdj (mone L (.loop (rec .ready none))) mo := d1 _ (.tail _ (.head _))
  have dLi : mdj (mone L (.loop (rec .ready none))) (M g0) := d1 _ (.tail _ (.tail _ (.head _)))
  have dDo : mdj (mone D (.deferred (some []))) mo := d2 _ (.head _)
  have dDi : mdj (mone D (.deferred (some []))) (M g0) := d2 _ (.tail _ (.head _))
  have doi : mdj mo (M g0) := d3 _ (.head _)
  refine ⟨L, [{ target := .collected D, args := #[] }], W1, { target := .fn (.func gf) caps.toArray, args := #[.func (.yield L) #[] #[]] }, W1, gf, (.func (.yield L) #[] #[] :: caps).toArray, W1, ?_, ?_, ?_, ?_, fun q => (by cases q), ?_⟩
  · rw [show (fen none).round = none from rfl, ← hW1, hrec, hL, hD]; exact run_enterLoop_outer _ _ _ _ _
  · simp only [resolve, he.eval hg]
    simp [go_sem]
  · intro f' _; trivial
  · show (callFunc gf (#[.func (.yield L) #[] #[]] ++ caps.toArray)).run P W1 = _
    rw [run_call_of_ok hf]
    simp
  -- the iterator's contract at our invariant, the record beside it
  have hm0 : mle (mun (mun (mone L (.loop (rec .ready none))) (M g0)) mo) (wm W1) := mun_le (mun_le l1 l4) l3
  have hcall := hit W hi (Mem × G) (fun q => mun q.1 (M q.2)) (fun a q => q.1 = mone L (.loop (rec .ready none)) ∧ mdj q.1 (M q.2) ∧ I a q.2)
    (fun q => ∃ e c, jumpOf e = some c ∧ q.1 = mone L (.loop (rec .done (some c))) ∧ mdj q.1 (M q.2) ∧ X e q.2) L W1 (mone L (.loop (rec .ready none)), g0) ⟨rfl, dLi, h0⟩ hm0 (mdj_un dLo doi.symm) ?_
  · refine CallsIn.mono (callsIn_wide.2 hcall) ?_
    rintro e W2 ⟨v, m', rfl, ⟨⟨ml, g'⟩, rfl, hx⟩, hu⟩
    have hk : ∀ q ∈ (jD, mone D (.deferred (some []))) :: rest, mle q.2 (mout (wm W1) (mun (mun (mone L (.loop (rec .ready none))) (M g0)) mo)) :=
      all2 (mle_out l2 (mdj_un (mdj_un dLD dDi.symm) dDo.symm).symm) fun q hq => mle_out (hi5.le q hq) (mdj_un (mdj_un (d1 q (.tail _ (.tail _ (.tail _ hq)))) (d4 q hq)) (d3 q (.tail _ hq))).symm
    have hfar : ∀ q ∈ (jD, mone D (.deferred (some []))) :: rest, mdj (mun ml (M g')) q.2 := fun q hq b => by
      rcases hu.dom b with h | h | h
      · exact .inl h
      · right
        cases e : q.2 b with
        | none => rfl
        | some ob =>
          exfalso
          have hin : q.2 b = some ob := e
          have := hk q hq b ob hin
          unfold mout at this
          split at this
          · cases this
          · exact h (by assumption)
      · right
        cases e : q.2 b with
        | none => rfl
        | some ob =>
          have := (hk q hq b ob e)
          have := mout_le _ _ b ob this
          simp [wm, Array.getElem?_eq_none h] at this
    have hR5 : Inv w0 ((jD, mone D (.deferred (some []))) :: rest) W2 :=
      (Inv.mk' hi5 l2 fun q hq => d2 q (.tail _ (.tail _ hq))).move hu.os hu.tape hu.output hu.size fun q hq => (hk q hq).trans hu.keep
    have fin : ∀ st pe, ml = mone L (.loop (rec st pe)) → st ≠ .busy → mdj ml (M g') → ∃ w₄, (Instr.endLoop L).run P W2 = .ok pe w₄ ∧ Inv w0 ((i, M g') :: (jD, mone D (.deferred (some []))) :: rest) w₄ := by
      rintro st pe rfl hst hdj
      have hl : W2.heap[L]? = some (.loop (rec st pe)) := hu.le L _ (mle_un_left _ _ _ _ (mone_self _ _))
      refine ⟨W2.putObj L (.loop { rec st pe with state := .exhausted }), by have := run_endLoop (P := P) hl (by rw [hrec]; exact hst); rw [hrec] at this ⊢; exact this, ?_⟩
      have hM : mle (M g') (wm W2) := (mle_un_right hdj).trans hu.le
      have hmv : ∀ q ∈ (jD, mone D (.deferred (some []))) :: rest, mle q.2 (wm (W2.putObj L (.loop { rec st pe with state := .exhausted }))) := fun q hq => put_le (hR5.le q hq) (mdj_mone (L := L) (o := .loop (rec st pe)) fun b => (hfar q hq b).imp (fun z => by
        cases e : mone L (.loop (rec st pe)) b with
        | none => rfl
        | some ob => rw [mle_un_left _ (M g') b ob e] at z; cases z) id)
      refine Inv.mk' (hR5.move rfl rfl rfl (by rw [World.putObj_size]; exact Nat.le_refl _) hmv) (put_le hM (mdj_mone hdj)) fun q hq b => (hfar q hq b).imp (fun z => by
        cases e : M g' b with
        | none => rfl
        | some ob => rw [mle_un_right hdj b ob e] at z; cases z) id
    have hact : ({ a with defers := [{ target := .collected D, args := #[] }] ++ a.defers } : Act) = wd a (dl (some D)) := by
      show _ = ({ a with defers := a.defers ++ _ } : Act)
      rw [he.defers]; rfl
    rcases hx with ⟨e, c, hj, hml, hdj, hX⟩ | ⟨a', ⟨hml, hdj, hI⟩, hDn⟩
    · obtain ⟨w₄, hend, hinv⟩ := fin _ _ hml (by simp) hdj
      refine ⟨some c, w₄, hend, ?_⟩
      have hjs : (jumpOf e).isSome = true := by rw [hj]; rfl
      have hq := hQ (some D) e σ _ a w₄ (hstop D e g' hX hjs) he hinv
      rw [hact]
      cases e with
      | ret => cases hj; exact wpIn_ret hq
      | exit id => cases hj; exact wpIn_exit hq
      | _ => cases hj
    · obtain ⟨w₄, hend, hinv⟩ := fin _ _ hml (by simp) hdj
      refine ⟨none, w₄, hend, ?_⟩
      show Q .normal _ w₄
      rw [hact]
      exact hQ (some D) .normal σ _ a w₄ (hdone D a' g' hI hDn) he hinv
  -- a round
  rintro a1 ⟨ml, g1⟩ args mr W' ⟨hml, hdj, hI⟩ hEx hiv
  dsimp only at hml hdj hI hiv ⊢
  obtain ⟨k0, c0, hiv1⟩ := hiv.hd
  obtain ⟨k1, c1, hiv2⟩ := hiv1.hd
  obtain ⟨k2, _, _⟩ := hiv2.hd
  have e01 : mdj (mout (wm W1) (mun (mun (mone L (.loop (rec .ready none))) (M g0)) mo)) (mun ml (M g1)) := c0 _ (.head _)
  have e02 : mdj (mout (wm W1) (mun (mun (mone L (.loop (rec .ready none))) (M g0)) mo)) mr := c0 _ (.tail _ (.head _))
  have e12 : mdj (mun ml (M g1)) mr := c1 _ (.head _)
  have hk : ∀ q ∈ (jD, mone D (.deferred (some []))) :: rest, mle q.2 (mout (wm W1) (mun (mun (mone L (.loop (rec .ready none))) (M g0)) mo)) :=
    all2 (mle_out l2 (mdj_un (mdj_un dLD dDi.symm) dDo.symm).symm) fun q hq => mle_out (hi5.le q hq) (mdj_un (mdj_un (d1 q (.tail _ (.tail _ (.tail _ hq)))) (d4 q hq)) (d3 q (.tail _ hq))).symm
  have hlen := hE a1 args mr hEx
  have hLr : W'.heap[L]? = some (.loop (rec .ready none)) := (k1.trans (mle_refl _)) L _ (mle_un_left _ _ _ _ (by rw [hml]; exact mone_self _ _))
  have hM1 : mle (M g1) (wm W') := (mle_un_right hdj).trans k1
  have hml1 : mle ml (wm W') := (mle_un_left _ _).trans k1
  have dmr : mdj ml mr := fun b => (e12 b).imp (fun z => by
    cases e : ml b with
    | none => rfl
    | some ob => rw [mle_un_left ml (M g1) b ob e] at z; cases z) id
  have dMr : mdj (M g1) mr := fun b => (e12 b).imp (fun z => by
    cases e : M g1 b with
    | none => rfl
    | some ob => rw [mle_un_right hdj b ob e] at z; cases z) id
  obtain ⟨hand, hhand⟩ : ∃ x, x = mun (mun ml (M g1)) mr := ⟨_, rfl⟩
  obtain ⟨rs, hrs⟩ : ∃ x, x = (jD, mone D (.deferred (some []))) :: rest := ⟨_, rfl⟩
  have hR5 : Inv w0 rs W1 := by rw [hrs]; exact Inv.mk' hi5 l2 fun q hq => d2 q (.tail _ (.tail _ hq))
  rw [← hrs] at hk
  have hrW : ∀ q ∈ rs, mle q.2 (wm W') := fun q hq => (hk q hq).trans k0
  have hrh : ∀ q ∈ rs, mdj q.2 hand := fun q hq => by
    rw [hhand]; exact (mdj_un (e01.symm.mono (mle_refl _) (hk q hq)) (e02.symm.mono (mle_refl _) (hk q hq))).symm
  have hrp : (rs.map Prod.snd).Pairwise mdj := List.pairwise_map.2 hR5.dj
  obtain ⟨mo', hmo'⟩ : ∃ x, x = mout (mout (wm W') hand) (muns (rs.map Prod.snd)) := ⟨_, rfl⟩
  have ho1 : mle mo' (wm W') := by rw [hmo']; exact (mout_le _ _).trans (mout_le _ _)
  have ho2 : mdj mo' hand := by rw [hmo']; exact (mdj_out _ _).mono (mout_le _ _) (mle_refl _)
  have ho3 : ∀ q ∈ rs, mdj mo' q.2 := fun q hq => by
    rw [hmo']; exact (mdj_out _ _).mono (mle_refl _) ((seps_muns hrp).1 _ (List.mem_map_of_mem hq))
  have hsub : ∀ (x : Mem), mle x hand → ∀ q ∈ rs, mdj x q.2 := fun x hx q hq => ((hrh q hq).mono (mle_refl _) hx).symm
  have hu1 : mle ml hand := by rw [hhand]; exact (mle_un_left _ _).trans (mle_un_left _ _)
  have hu2 : mle (M g1) hand := by rw [hhand]; exact (mle_un_right hdj).trans (mle_un_left _ _)
  have hu3 : mle mr hand := by rw [hhand]; exact mle_un_right e12
  have hrsW : Inv W' rs W' := ⟨rfl, rfl, rfl, Nat.le_refl _, hrW, hR5.dj⟩
  have hΩ : ∀ ml', mle ml' (wm W') → mdj ml' (M g1) → mdj ml' mr → (∀ q ∈ rs, mdj ml' q.2) → mdj mo' ml' → Inv W' ((jR, mr) :: (o, mo') :: (jL, ml') :: (i, M g1) :: rs) W' := fun ml' q1 q2 q3 q4 q5 =>
    (((hrsW.mk' hM1 (hsub _ hu2)).mk' q1 (all2 q2 q4)).mk' ho1 (all2 q5 (all2 (ho2.mono (mle_refl _) hu2) ho3))).mk' k2 (all2 (ho2.mono (mle_refl _) hu3).symm (all2 q3.symm (all2 dMr.symm (hsub _ hu3))))
  have hΩ0 := hΩ ml hml1 hdj dmr (hsub _ hu1) (ho2.mono (mle_refl _) hu1)
  have hy := run_yield (P := P) (args := args.toArray) hLr (by rw [hrec]; simp [hlen])
  rw [hrec] at hy
  refine ⟨fn, _, assign, body, hy, roundIn_of_wpIn (F := Fence.wide) trivial ?_⟩
  dsimp only
  rw [fold_get]
  have hpn : ∀ q ∈ p.zip args, q.1 < n := fun q hq => by
    have h1 := List.all_eq_true.1 hp q.1 (List.of_mem_zip hq).1
    simpa using h1
  have heA : EnvOk n ((p.zip args).reverse ++ σ) ({ tmps := (p.zip args).foldl (fun t q => t.setIfInBounds q.1 q.2) a.tmps, defers := [] } : Act) := by
    have := fold_env (p.zip args) he hpn
    rw [he.defers] at this
    exact this
  have hlift : ∀ (c : Code) (Q' : Exit → Act → World → Prop) (b : Act) (Wx : World), c.wpIn (fen (some L)) 0 P Q' b Wx → c.wpIn (Fence.wide.inRound L) 0 P Q' b Wx := fun _ _ _ _ h => h
  refine hlift _ _ _ _ ?_
  have hA := hassign W' L args _ hlen (Exit.then (fun a₁ w₁ => ∃ w₂, (Instr.beginRound L).run P w₁ = .ok () w₂ ∧ body.wpIn (Fence.wide.inRound L) 0 P (roundPost P L fun e W'' => ∃ v m', e = .returned v ∧ (∃ g' : Mem × G, m' = mun g'.1 (M g'.2) ∧ ((v = .bool true ∧ (g'.1 = mone L (.loop (rec .ready none)) ∧ mdj g'.1 (M g'.2) ∧ I (nx a1) g'.2)) ∨ (v = .bool false ∧ ∃ e c, jumpOf e = some c ∧ g'.1 = mone L (.loop (rec .done (some c))) ∧ mdj g'.1 (M g'.2) ∧ X e g'.2))) ∧ Upd W' (mun (mun ml (M g1)) mr) W'' m') a₁ w₂) fun _ _ _ => False) ?_ _ W' heA hΩ0
  · rw [show dl none = [] from rfl, wd_nil] at hA; rw [hrec] at hA ⊢; exact hA
  rintro d' e σ' Ω' b W1' ⟨rfl, rfl, hsub', rfl⟩ heb hib
  rw [show dl none = [] from rfl, wd_nil]
  -- the record is busy
  obtain ⟨b1, b2, hib1⟩ := hib.hd
  obtain ⟨b3, b4, hib2⟩ := hib1.hd
  obtain ⟨b5, b6, hib3⟩ := hib2.hd
  have hL1 : W1'.heap[L]? = some (.loop (rec .ready none)) := b5 L _ (by rw [hml]; exact mone_self _ _)
  refine ⟨W1'.putObj L (.loop { rec .ready none with state := .busy }), run_beginRound hL1 (by rw [hrec]), ?_⟩
  have fr : ∀ x, mdj ml x → x L = none := fun x hx => mdj_mone (L := L) (o := .loop (rec .ready none)) (by rw [← hml]; exact hx)
  have hib' : Inv W' ((jR, mr) :: (o, mo') :: (jL, mone L (.loop { rec .ready none with state := .busy })) :: (i, M g1) :: rs) (W1'.putObj L (.loop { rec .ready none with state := .busy })) := by
    have sw : ∀ x, mdj ml x → mdj (mone L (.loop { rec .ready none with state := .busy })) x := fun x hx => mdj_swap (o := .loop (rec .ready none)) (by rw [← hml]; exact hx)
    have z1 : mdj ml (M g1) := b6 _ (.head _)
    refine (((Inv.move (W' := W1'.putObj L (.loop { rec .ready none with state := .busy })) hib3 rfl rfl rfl (by rw [World.putObj_size]; exact Nat.le_refl _) fun q hq => put_le (hib3.le q hq) (fr _ (b6 q hq))).mk' (put_one (hml ▸ b5)) fun q hq => sw _ (b6 q hq)).mk' (put_le b3 (fr _ (b4 _ (.head _)).symm)) (all2 (sw _ (b4 _ (.head _)).symm).symm fun q hq => b4 q (.tail _ hq))).mk' (put_le b1 (fr _ (b2 _ (.tail _ (.head _))).symm)) (all2 (b2 _ (.head _)) (all2 (sw _ (b2 _ (.tail _ (.head _))).symm).symm fun q hq => b2 q (.tail _ (.tail _ hq))))
  have hB := hbody W' L D a1 g1 args mr (mone L (.loop { rec .ready none with state := .busy })) mo' hI hEx
  rw [← hrs] at hB
  have hB2 := hB (roundPost P L fun e W'' => ∃ v m', e = .returned v ∧ (∃ g' : Mem × G, m' = mun g'.1 (M g'.2) ∧ ((v = .bool true ∧ (g'.1 = mone L (.loop (rec .ready none)) ∧ mdj g'.1 (M g'.2) ∧ I (nx a1) g'.2)) ∨ (v = .bool false ∧ ∃ e c, jumpOf e = some c ∧ g'.1 = mone L (.loop (rec .done (some c))) ∧ mdj g'.1 (M g'.2) ∧ X e g'.2))) ∧ Upd W' (mun (mun ml (M g1)) mr) W'' m') ?_ b _ (heb.sub hsub') hib'
  · rw [show dl none = [] from rfl, wd_nil] at hB2; exact hB2
  rintro d'' e2 σ2 Ω2 b2' W3 ⟨rfl, hto⟩ heb2 hib4
  obtain ⟨g', hto, hx⟩ := hto W3 hib4
  obtain ⟨q1, q2, hq1⟩ := hto.hd
  obtain ⟨q3, q4, hq2⟩ := hq1.hd
  obtain ⟨q5, q6, hq3⟩ := hq2.hd
  have hL3 : W3.heap[L]? = some (.loop { rec .ready none with state := .busy }) := q3 L _ (mone_self _ _)
  have dM : mdj (mone L (.loop { rec .ready none with state := .busy })) (M g') := q4 _ (.head _)
  have done : ∀ (jump : Option Code), ∃ w4, (Instr.endRound L jump).run P W3 = .ok (.bool jump.isNone) w4 ∧ mdj (mone L (.loop (rec (if jump.isNone then .ready else .done) jump))) (M g') ∧
      Upd W' (mun (mun ml (M g1)) mr) w4 (mun (mone L (.loop (rec (if jump.isNone then .ready else .done) jump))) (M g')) := fun jump => by
    have hend := run_endRound (P := P) jump hL3
    refine ⟨W3.putObj L (.loop (rec (if jump.isNone then .ready else .done) jump)), by rw [hrec] at hend ⊢; exact hend, mdj_swap dM, ?_⟩
    have hfree : ∀ x, mdj (mone L (.loop { rec .ready none with state := .busy })) x → x L = none := fun x hx => mdj_mone hx
    rw [← hhand]
    refine ⟨hq3.os, hq3.tape, hq3.output, by rw [World.putObj_size]; exact hq3.size, ?_, mun_le ?_ (put_le q5 (hfree _ dM)), ?_⟩
    · intro x ob hxo
      cases hr : muns (rs.map Prod.snd) x with
      | some ob' =>
        have hle : mle (muns (rs.map Prod.snd)) (mout (wm W') hand) := muns_le fun y hy => by
          obtain ⟨q, hq, rfl⟩ := List.mem_map.1 hy
          exact mle_out (hrW q hq) (hrh q hq)
        have e1 := hle x ob' hr
        rw [hxo] at e1; cases e1
        refine put_le (muns_le fun y hy => ?_) ?_ x ob hr
        · obtain ⟨q, hq, rfl⟩ := List.mem_map.1 hy
          exact hq3.le q hq
        · have : mdj (muns (rs.map Prod.snd)) (mone L (.loop { rec .ready none with state := .busy })) := mdj_muns fun y hy => by
            obtain ⟨q, hq, rfl⟩ := List.mem_map.1 hy
            exact (q4 q (.tail _ hq)).symm
          exact hfree _ this.symm
      | none =>
        have : mo' x = some ob := by rw [hmo']; simp only [mout, hr]; exact hxo
        exact put_le q1 (hfree _ (q2 _ (.head _)).symm) x ob this
    · have := put_one (W := W3) (L := L) (o' := .loop { rec .ready none with state := .busy }) (o := .loop { rec .ready none with state := if jump.isNone then .ready else .done, pending := jump }) q3
      rw [hrec] at this ⊢; exact this
    · intro x
      by_cases hxL : x = L
      · refine .inr (.inl ?_)
        have := hu1 L _ (by rw [hml]; exact mone_self _ _)
        rw [hxL, this]; simp
      · cases hM : M g' x with
        | none => left; simp only [mun, mone_ne _ hxL]; exact hM
        | some ob =>
          right
          rcases Nat.lt_or_ge x W'.heap.size with hlt | hge
          · left
            intro hnone
            have hw : wm W' x = some W'.heap[x] := Array.getElem?_eq_getElem hlt
            have hbig : mout (wm W') hand x = some W'.heap[x] := by simp only [mout, hnone]; exact hw
            cases hr : muns (rs.map Prod.snd) x with
            | some ob' =>
              have : mdj (muns (rs.map Prod.snd)) (M g') := mdj_muns fun y hy => by
                obtain ⟨q, hq, rfl⟩ := List.mem_map.1 hy
                exact (q6 q hq).symm
              rcases this x with h | h
              · rw [hr] at h; cases h
              · rw [hM] at h; cases h
            | none =>
              have h1 : mo' x = some W'.heap[x] := by rw [hmo']; simp only [mout, hr]; exact hbig
              rcases (q2 _ (.tail _ (.head _))) x with h | h
              · rw [h1] at h; cases h
              · exact absurd (hM.symm.trans h) (by simp)
          · exact .inr hge
  rw [show dl none = [] from rfl, wd_nil]
  rcases hx with ⟨rfl, hI'⟩ | ⟨hj, hX'⟩
  · obtain ⟨w4, h1, h2, h3⟩ := done none
    exact ⟨_, w4, h1, _, _, rfl, ⟨(_, g'), rfl, .inl ⟨rfl, rfl, h2, hI'⟩⟩, h3⟩
  · cases e2 with
    | ret =>
      obtain ⟨w4, h1, h2, h3⟩ := done (some .ret)
      exact ⟨_, w4, h1, _, _, rfl, ⟨(_, g'), rfl, .inr ⟨rfl, .ret, _, rfl, rfl, h2, hX'⟩⟩, h3⟩
    | exit id =>
      obtain ⟨w4, h1, h2, h3⟩ := done (some (.exit id))
      exact ⟨_, w4, h1, _, _, rfl, ⟨(_, g'), rfl, .inr ⟨rfl, .exit id, _, rfl, rfl, h2, hX'⟩⟩, h3⟩
    | _ => cases hj
end
theorem mun_nil (m : Mem) : mun m mnil = m := by
  funext g; unfold mun mnil; cases m g <;> rfl
section
variable {P : Program} {n : Nat} {w0 : World} {σ : Env} {Ω : Ctx} {K : Env → Ctx → Prop} {R : Option Nat → Exit → Env → Ctx → Prop}
theorem VL.pre {l0 : List Oper} (k : Nat) {r : List Nat} (hd : noDefer l0.toArray = true) (h : VO P n w0 l0.toArray (l0.take k) σ Ω (fun σ' Ω' => VL P n w0 l0.toArray r σ' Ω' K)) : VL P n w0 l0.toArray (List.range' 0 (l0.take k).length ++ r) σ Ω K :=
  VL.of 0 (fun j o h' => by
    have hj : j < k := by
      rcases Nat.lt_or_ge j k with q | q
      · exact q
      · rw [List.getElem?_eq_none (by rw [List.length_take]; omega)] at h'; cases h'
    rw [List.getElem?_take_of_lt hj] at h'
    simpa using h') hd h
theorem VL.post {l0 : List Oper} (k : Nat) {r : List Nat} (hr : List.range' k (l0.drop k).length = r) (hd : noDefer l0.toArray = true) (h : VO P n w0 l0.toArray (l0.drop k) σ Ω K) : VL P n w0 l0.toArray r σ Ω K := by
  have := VL.of (P := P) (n := n) (w0 := w0) (σ := σ) (Ω := Ω) (K := K) (ops := l0.toArray) (l := l0.drop k) (r := []) k (fun j o h' => by rw [List.getElem?_drop] at h'; simpa using h') hd
    (fun Q hQ a W he hi => h Q (fun σ' Ω' a W hk he hi => hQ σ' Ω' a W (VL.nil hk) he hi) a W he hi)
  rw [List.append_nil, hr] at this
  exact this
theorem VL.yield2 {ops : Array Oper} {i : Nat} {r : List Nat} {d : Nat} {x : Operand} {xs : List Operand} {ats : Array TypeId} {ty : TypeId} {pos : String} {af : Array Edge} {gd : Option (Nat × Bool)} {l : Nat} {vs : List Value} {m q : Mem} {Post : Value → Mem → Prop} (c e : Nat)
    (ho : ops[i]? = some ⟨some d, .call { callee := .value x, args := xs.toArray, argTypes := ats }, ty, pos, af, gd⟩) (hd : Nat.blt d n = true) (hg : gd = none ∨ ∃ j b, gd = some (j, b) ∧ gyes σ ops j b) (hx : ev σ x = some (.func (.yield l) #[] #[]))
    (ha : evs σ xs = some vs) (hm : cget Ω c = some m) (hq : cget (cdel Ω c) e = some q) (hy : ∀ W, Inv w0 Ω W → YldR P l vs W (mun m q) Post) (h : ∀ v m', Post v m' → VL P n w0 ops r ((d, v) :: σ) ((c, m') :: cdel (cdel Ω c) e) K) : VL P n w0 ops (i :: r) σ Ω K :=
  fun Q hQ a W he hi => by
    unfold wpOpsIn
    rw [ho]
    dsimp only
    have hw : Region.wanted ⟨some d, .call { callee := .value x, args := xs.toArray, argTypes := ats }, ty, pos, af, gd⟩ (yielded ops a.tmps) = true := by
      rcases hg with rfl | ⟨j, b, rfl, hj⟩
      · rfl
      · simp [Region.wanted, yielded_of he hj]
    rw [if_pos hw]
    refine ⟨fun _ _ => trivial, ?_⟩
    rw [show (fen none).round = none from rfl, Oper.semAt_none]
    obtain ⟨fn, tmps, assign, body, h1, h2⟩ := hy W hi
    have e' : execOp a.eval ⟨some d, .call { callee := .value x, args := xs.toArray, argTypes := ats }, ty, pos, af, gd⟩ = Instr.yield l vs.toArray := by
      have e1 : a.eval x = .func (.yield l) #[] #[] := he.eval hx
      have e2 : #[] ++ xs.toArray.map a.eval ++ #[] = vs.toArray := by rw [← he.evals ha]; simp
      rw [← e2]
      show (do let d ← Deferred.ofValue (a.eval x) (xs.toArray.map a.eval); invoke d.target d.args) = _
      rw [e1]; rfl
    rw [e', h1]
    refine ⟨fun q => (by cases q), RoundIn.mono h2 ?_⟩
    rintro e' W' ⟨v, m', rfl, hp, hu⟩
    have hj := hi.joinK c hm hq
    have hcs : ∀ (y : Mem) (Ω' : Ctx), cset ((c, mun m q) :: Ω') c y = (c, y) :: Ω' := fun y Ω' => by simp [cset, Nat.beq_refl]
    have := hj.upd (i := c) (by simp [cget, Nat.beq_refl]) hu
    rw [hcs] at this
    exact h v m' hp Q hQ _ W' (he.put hd v) this
end
theorem Inv.three {w0 W : World} {i j k i' j' k' : Nat} {a b c : Mem} (h : Inv w0 [(i, a), (j, b), (k, c)] W) : Inv w0 [(i', a), (j', b), (k', c)] W := by
  obtain ⟨a1, a2, h1⟩ := h.hd
  obtain ⟨b1, b2, h2⟩ := h1.hd
  obtain ⟨c1, _, h3⟩ := h2.hd
  have e1 : mdj a b := a2 (j, b) (.head _)
  have e2 : mdj a c := a2 (k, c) (.tail _ (.head _))
  have e3 : mdj b c := b2 (k, c) (.head _)
  exact ((h3.mk' (i := k') c1 (fun _ q => by cases q)).mk' (i := j') b1 (all2 e3 fun _ q => by cases q)).mk' a1 (all2 e1 (all2 e2 fun _ q => by cases q))
end
section
theorem Inv.sbK {w0 W : World} {Ω ΩS : Ctx} (l : List Nat) (h : Inv w0 Ω W) (e : csub Ω l = ΩS := by kernel_rfl) : Inv w0 ΩS W := e ▸ h.sub l
theorem VD.kp {P : Program} {n : Nat} {w0 : World} {σ : Env} {Ω ΩS : Ctx} {ops : Array Oper} {K : Env → Ctx → Prop} {t : Nat} {l : List (Nat × Bool)} (ids : List Nat) (Ω' : Ctx) (h : VD P n w0 ops ΩS t l σ Ω' K) (hk : csub Ω ids = Ω' := by kernel_rfl) : VD P n w0 ops ΩS t l σ Ω K :=
  VD.inv _ (fun W hW => hk ▸ hW.sub ids) h
section
variable (P : Program) (n : Nat) (w0 : World)
def VE (ops : Array Oper) (ΩS : Ctx) (t : Nat) (listed : Array Bool) (m : Nat) (σ : Env) (Ω : Ctx) (K : Env → Ctx → Prop) : Prop :=
  ∀ Q : Exit → Act → World → Prop, (∀ c a w, ¬ Q (.panic c) a w) → (∀ σ' Ω' a W, K σ' Ω' → EnvOk n σ' a → Inv w0 Ω' W → Q .normal a W) →
    ∀ a W, EnvOk n σ a → Inv w0 Ω W → Inv w0 (curS ops ΩS listed) W → HeadInv .any ops t listed → Region.noSelect ops = true → (t < ops.size → Region.sinkB .any ops t = true ∧ Region.chainB .any ops t = true) → wpAnyT P ops Q (fun L w => Inv w0 (curS ops ΩS L) w) t (m + (ops.size - t)) listed a W
end
section
variable {P : Program} {n : Nat} {w0 : World} {σ : Env} {Ω ΩS : Ctx} {ops : Array Oper} {t : Nat} {K : Env → Ctx → Prop}
theorem VE.y {listed : Array Bool} {m : Nat} (i : Nat) {d : Nat} {op : Op} {ty : TypeId} {pos : String} {af : Array Edge} {gd : Option (Nat × Bool)} {v : Value} (hd : Nat.blt d n = true) (ho : ops[i]? = some ⟨some d, op, ty, pos, af, gd⟩)
    (hg : gd = none ∨ ∃ j b, gd = some (j, b) ∧ gyes σ ops j b) (hk : (Nat.blt i t && (Region.ready .any ops listed).contains i && Region.free .any ops listed i) = true) (hy : Yld P n w0 σ (lowS ΩS) ⟨some d, op, ty, pos, af, gd⟩ v) (h : VE P n w0 ops ΩS t (listed.setIfInBounds i true) m ((d, v) :: σ) Ω K) : VE P n w0 ops ΩS t listed (m + 1) σ Ω K :=
  fun Q hn hQ a W he hi hiS hh hsel hsc => by
    simp only [Bool.and_eq_true] at hk
    obtain ⟨⟨hit, hr⟩, hf⟩ := hk
    have hit' : i < t := by simpa using hit
    have hr' : i ∈ Region.ready .any ops listed := by simpa using hr
    have hyi : YieldsIf P ops (Inv w0 (lowS ΩS)) ⟨some d, op, ty, pos, af, gd⟩ v a := by
      refine .inl ⟨?_, fun w hw => hy a w he hw⟩
      rcases hg with rfl | ⟨j, b, rfl, hg⟩
      · simp [Region.wanted]
      · simp [Region.wanted, yielded_of he hg]
    rw [show m + 1 + (ops.size - t) = (m + (ops.size - t)) + 1 by omega]
    have hns : isSt ops i = false := by unfold isSt; rw [ho]
    exact wpAnyT_first ho hit' (Nat.lt_or_ge t ops.size) (Region.noSelect_spec hsel) (fun _ _ _ _ q => q.curLow) (fun L w => by rw [curS_set hns]) (fun c a w hq => absurd hq (hn c _ w)) (fun h => (hsc h).1) (fun h => (hsc h).2) _ listed a W hh (Region.free_spec ho hf) hr' hyi hiS
      (h Q hn hQ _ W (he.put hd v) hi (by rw [curS_set hns]; exact hiS) (hh.set hr' hit') hsel hsc)
theorem VE.yH {listed : Array Bool} {m : Nat} (i : Nat) {d : Nat} {op : Op} {ty : TypeId} {pos : String} {af : Array Edge} {gd : Option (Nat × Bool)} {v : Value} (hd : Nat.blt d n = true) (ho : ops[i]? = some ⟨some d, op, ty, pos, af, gd⟩)
    (hg : gd = none ∨ ∃ j b, gd = some (j, b) ∧ gyes σ ops j b) (hk : (Nat.blt i t && (Region.ready .any ops listed).contains i && Region.free .any ops listed i) = true) (hp : precB ops i = true) (hy : Yld P n w0 σ ΩS ⟨some d, op, ty, pos, af, gd⟩ v) (h : VE P n w0 ops ΩS t (listed.setIfInBounds i true) m ((d, v) :: σ) Ω K) : VE P n w0 ops ΩS t listed (m + 1) σ Ω K :=
  fun Q hn hQ a W he hi hiS hh hsel hsc => by
    simp only [Bool.and_eq_true] at hk
    obtain ⟨⟨hit, hr⟩, hf⟩ := hk
    have hit' : i < t := by simpa using hit
    have hr' : i ∈ Region.ready .any ops listed := by simpa using hr
    have hyi : YieldsIf P ops (Inv w0 ΩS) ⟨some d, op, ty, pos, af, gd⟩ v a := by
      refine .inl ⟨?_, fun w hw => hy a w he hw⟩
      rcases hg with rfl | ⟨j, b, rfl, hg⟩
      · simp [Region.wanted]
      · simp [Region.wanted, yielded_of he hg]
    rw [show m + 1 + (ops.size - t) = (m + (ops.size - t)) + 1 by omega]
    have hns : isSt ops i = false := by unfold isSt; rw [ho]
    exact wpAnyT_first ho hit' (Nat.lt_or_ge t ops.size) (Region.noSelect_spec hsel) (fun L w hhL hu q => by unfold curS at q; rw [prec_none hp hhL hu] at q; exact q) (fun L w => by rw [curS_set hns]) (fun c a w hq => absurd hq (hn c _ w)) (fun h => (hsc h).1) (fun h => (hsc h).2) _ listed a W hh (Region.free_spec ho hf) hr' hyi hiS
      (h Q hn hQ _ W (he.put hd v) hi (by rw [curS_set hns]; exact hiS) (hh.set hr' hit') hsel hsc)
def AllL {α : Type} (p : α → Prop) : List α → Prop
  | [] => True
  | a :: r => p a ∧ AllL p r
theorem AllL.mem {α : Type} {p : α → Prop} : ∀ {l : List α}, AllL p l → ∀ a ∈ l, p a
  | _ :: _, ⟨h, _⟩, _, .head _ => h
  | _ :: _, ⟨_, h⟩, _, .tail _ ha => h.mem _ ha
def regEB (ops : Array Oper) (t : Nat) : Bool := Nat.ble t ops.size && Region.noSelect ops && (Nat.ble ops.size t || (Region.sinkB .any ops t && Region.chainB .any ops t))
theorem VE.start {l : List Oper} (ΩS : Ctx) (t : Nat) (hs : regEB l.toArray t = true) (hΩ : ∀ W, Inv w0 Ω W → Inv w0 ΩS W) (h : VE P n w0 l.toArray ΩS t (Array.replicate l.toArray.size false) t σ Ω K) (Q : Exit → Act → World → Prop) (hn : ∀ c a w, ¬ Q (.panic c) a w)
    (hQ : ∀ σ' Ω' a W, K σ' Ω' → EnvOk n σ' a → Inv w0 Ω' W → Q .normal a W) (a : Act) (W : World) (he : EnvOk n σ a) (hi : Inv w0 Ω W) : wpAny P .any l.toArray Q l.toArray.size (Array.replicate l.toArray.size false) a W := by
  simp only [regEB, Bool.and_eq_true, Bool.or_eq_true] at hs
  obtain ⟨⟨h0, h1⟩, h2⟩ := hs
  have hle := Nat.le_of_ble_eq_true h0
  have := h Q hn hQ a W he hi (hΩ W hi).cur (HeadInv.start _ _) h1 (fun hlt => by
    rcases h2 with h2 | h2
    · have := Nat.le_of_ble_eq_true h2; omega
    · exact h2)
  rw [show t + (l.toArray.size - t) = l.toArray.size by omega] at this
  exact wpAny_of_T _ _ _ _ this
theorem VC.regE {id : Nat} {l : List Oper} {R : Exit → Env → Ctx → Prop} (ΩS : Ctx) (t : Nat) (hm : P.follows .mixedOrders = true) (hs : regEB l.toArray t = true) (hΩ : ∀ W, Inv w0 Ω W → Inv w0 ΩS W)
    (h : VE P n w0 l.toArray ΩS t (Array.replicate l.toArray.size false) t σ Ω (R .normal)) : VC P n w0 (.region id l.toArray true) R σ Ω :=
  fun Q hQ a W he hi => by
    let Q' : Exit → Act → World → Prop := fun e a w => match e with | .normal => Q .normal a w | _ => False
    refine wp_mono (Q := Q') ?_ (fun e a w hq => by cases e <;> first | exact hq | exact hq.elim)
    exact wp_region_any hm (h.start ΩS t hs hΩ Q' (fun _ _ _ hq => hq) (fun σ' Ω' a W hk => hQ _ σ' Ω' a W hk) a W.drew he hi.drew)
theorem VX.regE {id : Nat} {l : List Oper} {ρ d : Option Nat} {R : Option Nat → Exit → Env → Ctx → Prop} (ΩS : Ctx) (t : Nat) (hm : P.follows .mixedOrders = true) (hs : regEB l.toArray t = true) (hΩ : ∀ W, Inv w0 Ω W → Inv w0 ΩS W)
    (h : VE P n w0 l.toArray ΩS t (Array.replicate l.toArray.size false) t σ Ω (R d .normal)) (hnd : noDefer l.toArray = true := by kernel_rfl) : VX P n w0 ρ (.region id l.toArray true) R d σ Ω :=
  fun Q hQ a W he hi => by
    let Q' : Exit → Act → World → Prop := fun e a w => e = .normal ∧ ∃ σ' Ω', R d .normal σ' Ω' ∧ EnvOk n σ' a ∧ Inv w0 Ω' w
    have hA := h.start ΩS t hs hΩ Q' (fun _ _ _ hq => by cases hq.1) (fun σ' Ω' a W hk he hi => ⟨rfl, σ', Ω', hk, he, hi⟩) a W.drew he hi.drew
    refine wpIn_region_draw fun t' => ops_in hnd (Q := Q') (fun _ _ _ q => by cases q.1) (fun _ _ q => by cases q.1) (fun a w ⟨_, σ', Ω', hk, he, hi⟩ => hQ _ _ σ' Ω' a w hk he hi) _ a _ ?_
    simp only [Region.schedule, hm, Bool.true_or, if_true]
    exact wpAny_sound _ t' _ a _ hA
end
end
section
section
variable {P : Program} {n : Nat} {w0 : World} {σ : Env} {Ω ΩS : Ctx} {ops : Array Oper} {K : Env → Ctx → Prop}
theorem VD.store {tt q : Nat} {ss : List (Nat × Bool)} {ty : TypeId} {pos : String} {af : Array Edge} {t : TypeId} {x y : Operand} {g off : Nat} {v : Value} {k : Nat} (i : Nat) {c : Array Value} {E : TypeId} {c' : List Value}
    (ho : ops[q]? = some ⟨none, .store t x y, ty, pos, af, none⟩)
    (hx : ev σ x = some (.pointer (some ⟨g, off, none⟩))) (hy : ev σ y = some v) (ht : tk P t = some (some k) ∨ (tk P t = some none ∧ k = 1)) (hk : Nat.beq v.cells.size k = true) (hn : nice v = true)
    (hm : cget Ω i = some (mone g (.cells c E (0, 0)))) (hl : Nat.ble (off + k) c.size = true) (hc : splice c.toList off v.cells.toList = c')
    (hS : ∀ W, Inv w0 (cset Ω i (mone g (.cells c'.toArray E (0, 0)))) W → Inv w0 ΩS W)
    (h : VD P n w0 ops ΩS tt ss σ (cset Ω i (mone g (.cells c'.toArray E (0, 0)))) K) : VD P n w0 ops ΩS tt ((q, false) :: ss) σ Ω K :=
  VD.s (fun _ => σ) ho (fun _ _ he => he) (.inl rfl) (Stp.store i hx hy ht hk hn hm (mone_self _ _) hl) (fun _ _ ⟨_, hΩ⟩ W hW => hS W (by rw [hΩ, mset_one, hc] at hW; exact hW)) (fun _ _ ⟨_, hΩ⟩ => by rw [hΩ, mset_one, hc]; exact h)
theorem VD.storeH {tt q : Nat} {ss : List (Nat × Bool)} {ty : TypeId} {pos : String} {af : Array Edge} {t : TypeId} {x y : Operand} {g off : Nat} {v : Value} {k : Nat} (i : Nat) {c : Array Value} {E : TypeId} {c' : List Value}
    (ho : ops[q]? = some ⟨none, .store t x y, ty, pos, af, none⟩)
    (hx : ev σ x = some (.pointer (some ⟨g, off, none⟩))) (hy : ev σ y = some v) (ht : tk P t = some (some k) ∨ (tk P t = some none ∧ k = 1)) (hk : Nat.beq v.cells.size k = true) (hn : nice v = true)
    (hm : cget Ω i = some (mone g (.cells c E (0, 0)))) (hl : Nat.ble (off + k) c.size = true) (hc : splice c.toList off v.cells.toList = c')
    (hS : ∀ W, Inv w0 (cset Ω i (mone g (.cells c'.toArray E (0, 0)))) W → Inv w0 (lowS ΩS) W)
    (h : VD P n w0 ops (lowS ΩS) tt ss σ (cset Ω i (mone g (.cells c'.toArray E (0, 0)))) K) : VD P n w0 ops ΩS tt ((q, false) :: ss) σ Ω K :=
  VD.sH (fun _ => σ) ho (fun _ _ he => he) rfl (by unfold isSt; rw [ho]) (Stp.store i hx hy ht hk hn hm (mone_self _ _) hl) (fun _ _ ⟨_, hΩ⟩ W hW => hS W (by rw [hΩ, mset_one, hc] at hW; exact hW)) (fun _ _ ⟨_, hΩ⟩ => by rw [hΩ, mset_one, hc]; exact h)
end
/-- what a slice of one's own was, is still to be read -/
def KeptA (sz : Nat) (m : Mem) (v : Value) (len : Nat) (cs : List Value) : Prop := ∃ A cap, v = .slice A len cap ∧ len ≤ cap ∧ cap ≤ maxLen ∧ ((len = 0 ∧ cs = []) ∨ ∃ g off, A = some ⟨g, off, none⟩ ∧ cellsAt m g off (len * sz) cs)
theorem KeptA.rd {e : Ty} {m : Mem} {A : Option Addr} {c : Nat} {cs : List Value} {xs : List e.Den} (h : KeptA e.sz m (.slice A xs.length c) xs.length cs) (hc : All2c (Rd e m) cs xs) : Rd (.sl e) m [.slice A xs.length c] xs := by
  obtain ⟨A', c', h1, h2, h3, h4⟩ := h
  simp only [Value.slice.injEq, true_and] at h1
  obtain ⟨rfl, rfl⟩ := h1
  refine ⟨_, _, rfl, h2, h3, ?_⟩
  rcases h4 with ⟨h4, _⟩ | ⟨g, off, h4, h5⟩
  · exact .inl h4
  · exact .inr ⟨g, off, cs, h4, h5, hc⟩
end
section
set_option linter.unusedVariables false
section
variable (P : Program) (n : Nat) (w0 : World)
/-- operation i comes up next (m more, and the tail, behind it) -/
def VI (ops : Array Oper) (ΩS : Ctx) (t : Nat) (listed : Array Bool) (m i : Nat) (σ : Env) (Ω : Ctx) (K : Env → Ctx → Prop) : Prop :=
  ∀ Q : Exit → Act → World → Prop, (∀ c a w, ¬ Q (.panic c) a w) → (∀ σ' Ω' a W, K σ' Ω' → EnvOk n σ' a → Inv w0 Ω' W → Q .normal a W) →
    ∀ a W, EnvOk n σ a → Inv w0 Ω W → HeadInv .any ops t listed → Region.noSelect ops = true → (t < ops.size → Region.sinkB .any ops t = true ∧ Region.chainB .any ops t = true) → i ∈ Region.ready .any ops listed → i < t →
    wpOp P ops Q i (fun a' w' => (i < t → Inv w0 (curS ops ΩS (listed.setIfInBounds i true)) w') ∧ wpAnyT P ops Q (fun L w => Inv w0 (curS ops ΩS L) w) t (m + (ops.size - t)) (listed.setIfInBounds i true) a' w') a W
end
section
variable {P : Program} {n : Nat} {w0 : World} {σ : Env} {Ω ΩS : Ctx} {ops : Array Oper} {t : Nat} {K : Env → Ctx → Prop} {listed : Array Bool} {m : Nat}
def nextB (ops : Array Oper) (t : Nat) (listed : Array Bool) (is : List Nat) : Bool := Region.ready .any ops listed == is && is.all (fun i => Nat.blt i t) && !is.isEmpty
theorem VE.tree (is : List Nat) (hr : nextB ops t listed is = true) (h : AllL (fun i => VI P n w0 ops ΩS t listed m i σ Ω K) is) : VE P n w0 ops ΩS t listed (m + 1) σ Ω K :=
  fun Q hn hQ a W he hi hiS hh hsel hsc => by
    simp only [nextB, Bool.and_eq_true, beq_iff_eq, List.all_eq_true, Bool.not_eq_true'] at hr
    obtain ⟨⟨h1, h2⟩, h3⟩ := hr
    rw [show m + 1 + (ops.size - t) = (m + (ops.size - t)) + 1 by omega]
    refine ⟨fun h0 => (by rw [h1] at h0; rw [h0] at h3; cases h3), fun j hj => ?_⟩
    have hj' := hj
    rw [h1] at hj'
    exact h.mem j hj' Q hn hQ a W he hi hh hsel hsc hj (by simpa using h2 j hj')
theorem VE.nil {l : List Oper} (ho : okHead.okTail ops (ops.size - t) t listed = true) (hl : ops.toList.drop t = l) (h : VO P n w0 ops l σ Ω K) (ht : Nat.ble t ops.size = true) : VE P n w0 ops ΩS t listed 0 σ Ω K :=
  fun Q _ hQ a W he hi _ hh _ _ => by
    have htl := Nat.le_of_ble_eq_true ht
    subst hl
    have := wpAnyT_tail (P := P) (Q := Q) (S := fun L w => Inv w0 (curS ops ΩS L) w) (ops.size - t) t listed a W ho (Nat.le_refl _) (by omega) (h Q hQ a W he hi)
    simpa using this
theorem VE.inv (Ω' : Ctx) (hs : ∀ W, Inv w0 Ω W → Inv w0 Ω' W) (h : VE P n w0 ops ΩS t listed m σ Ω' K) : VE P n w0 ops ΩS t listed m σ Ω K :=
  fun Q hn hQ a W he hi => h Q hn hQ a W he (hs W hi)
theorem VI.inv {i : Nat} (Ω' : Ctx) (hs : ∀ W, Inv w0 Ω W → Inv w0 Ω' W) (h : VI P n w0 ops ΩS t listed m i σ Ω' K) : VI P n w0 ops ΩS t listed m i σ Ω K :=
  fun Q hn hQ a W he hi => h Q hn hQ a W he (hs W hi)
theorem VE.gather (k : Nat) (ids : List Nat) {l : List Mem} (hg : cgets Ω ids = some l) (h : Seps (muns l) l → VE P n w0 ops ΩS t listed m σ ((k, muns l) :: cdels Ω ids) K) : VE P n w0 ops ΩS t listed m σ Ω K :=
  fun Q hn hQ a W he hi => h (hi.gather k hg).2 Q hn hQ a W he (hi.gather k hg).1
theorem VI.gather {i : Nat} (k : Nat) (ids : List Nat) {l : List Mem} (hg : cgets Ω ids = some l) (h : Seps (muns l) l → VI P n w0 ops ΩS t listed m i σ ((k, muns l) :: cdels Ω ids) K) : VI P n w0 ops ΩS t listed m i σ Ω K :=
  fun Q hn hQ a W he hi => h (hi.gather k hg).2 Q hn hQ a W he (hi.gather k hg).1
theorem VE.kp (ids : List Nat) (Ω' : Ctx) (h : VE P n w0 ops ΩS t listed m σ Ω' K) (hk : csub Ω ids = Ω' := by kernel_rfl) : VE P n w0 ops ΩS t listed m σ Ω K :=
  VE.inv _ (fun W hW => hk ▸ hW.sub ids) h
theorem VI.s {i : Nat} {o : Oper} {Φ : Value → Ctx → Prop} (σ' : Value → Env) (ho : ops[i]? = some o) (hσ : ∀ v a, EnvOk n σ a → EnvOk n (σ' v) (a.put o.dst v))
    (hg : o.guard = none ∨ ∃ j b, o.guard = some (j, b) ∧ gyes σ ops j b) (hs : Stp P n w0 σ Ω o Φ) (hS : ∀ v Ω', Φ v Ω' → ∀ W, Inv w0 Ω' W → Inv w0 ΩS W)
    (h : ∀ v Ω', Φ v Ω' → VE P n w0 ops ΩS t (listed.setIfInBounds i true) m (σ' v) Ω' K) : VI P n w0 ops ΩS t listed m i σ Ω K :=
  fun Q hn hQ a W he hi hh hsel hsc hr' hit' => by
    unfold wpOp
    simp only [ho]
    have hw : Region.wanted o (yielded ops a.tmps) = true := by
      rcases hg with hg | ⟨k, b, hg, hy⟩
      · simp [Region.wanted, hg]
      · simp [Region.wanted, hg, yielded_of he hy]
    rw [if_pos hw]
    exact .inl (hs a W he hi _ Q fun v Ω' W' hv hi' => ⟨fun _ => (hS v Ω' hv W' hi').cur, h v Ω' hv Q hn hQ _ W' (hσ v a he) hi' (hS v Ω' hv W' hi').cur (hh.set hr' hit') hsel hsc⟩)
theorem VI.sH {i : Nat} {o : Oper} {Φ : Value → Ctx → Prop} (σ' : Value → Env) (ho : ops[i]? = some o) (hσ : ∀ v a, EnvOk n σ a → EnvOk n (σ' v) (a.put o.dst v))
    (hg : o.guard = none) (hst : isSt ops i = true) (hs : Stp P n w0 σ Ω o Φ) (hS : ∀ v Ω', Φ v Ω' → ∀ W, Inv w0 Ω' W → Inv w0 (lowS ΩS) W)
    (h : ∀ v Ω', Φ v Ω' → VE P n w0 ops (lowS ΩS) t (listed.setIfInBounds i true) m (σ' v) Ω' K) : VI P n w0 ops ΩS t listed m i σ Ω K :=
  fun Q hn hQ a W he hi hh hsel hsc hr' hit' => by
    unfold wpOp
    simp only [ho]
    have hw : Region.wanted o (yielded ops a.tmps) = true := by simp [Region.wanted, hg]
    rw [if_pos hw]
    have hsz : i < listed.size := by rw [hh.size]; exact (Array.getElem?_eq_some_iff.1 ho).1
    have hany : anySt ops (listed.setIfInBounds i true) = true := List.any_eq_true.2 ⟨i, List.mem_range.2 (Array.getElem?_eq_some_iff.1 ho).1, by rw [hst]; simp [hsz]⟩
    exact .inl (hs a W he hi _ Q fun v Ω' W' hv hi' => ⟨fun _ => by unfold curS; rw [hany]; exact hS v Ω' hv W' hi', wpAnyT_low _ _ _ _ hany (h v Ω' hv Q hn hQ _ W' (hσ v a he) hi' (by rw [curS_lowS]; exact hS v Ω' hv W' hi') (hh.set hr' hit') hsel hsc)⟩)
theorem VI.callN {i : Nat} {listed : Array Bool} {mm : Nat} {d : Nat} {f : FuncId} {xs : List Operand} {ats : Array TypeId} {ty : TypeId} {pos : String} {af : Array Edge} {gd : Option (Nat × Bool)} {vs : List Value} {Post : Value → Mem → Prop}
    (j : Nat) (hd : Nat.blt d n = true) (ho : ops[i]? = some ⟨some d, .call { callee := .value (.func f), args := xs.toArray, argTypes := ats }, ty, pos, af, gd⟩) (hg : gd = none ∨ ∃ j b, gd = some (j, b) ∧ gyes σ ops j b) (hf : fnOk P f = true)
    (ha : evs σ xs = some vs) (hS : ∀ W, Inv w0 Ω W → Inv w0 ΩS W) (hc : ∀ W, Inv w0 Ω W → CallR P f vs W mnil Post) (h : ∀ v m', Post v m' → VE P n w0 ops ΩS t (listed.setIfInBounds i true) mm ((d, v) :: σ) ((j, m') :: Ω) K) : VI P n w0 ops ΩS t listed mm i σ Ω K :=
  VI.s (fun v => (d, v) :: σ) ho (fun v _ he => he.put hd v) hg (Stp.callN j hf ha hc) (fun _ _ ⟨_, _, hΩ⟩ W hW => hS W (by subst hΩ; exact hW.tl)) (fun v _ ⟨m', hp, hΩ⟩ => hΩ ▸ h v m' hp)
theorem VI.call {t : Nat} {i : Nat} {listed : Array Bool} {mm : Nat} {d : Nat} {f : FuncId} {xs : List Operand} {ats : Array TypeId} {ty : TypeId} {pos : String} {af : Array Edge} {gd : Option (Nat × Bool)} {vs : List Value} {Post : Value → Mem → Prop}
    (j : Nat) {m : Mem} (hd : Nat.blt d n = true) (ho : ops[i]? = some ⟨some d, .call { callee := .value (.func f), args := xs.toArray, argTypes := ats }, ty, pos, af, gd⟩) (hg : gd = none ∨ ∃ j b, gd = some (j, b) ∧ gyes σ ops j b) (hf : fnOk P f = true)
    (ha : evs σ xs = some vs) (hm : cget Ω j = some m) (hS : ∀ m' W, Inv w0 (cset Ω j m') W → Inv w0 ΩS W) (hc : ∀ W, Inv w0 Ω W → CallR P f vs W m Post) (h : ∀ v m', Post v m' → VE P n w0 ops ΩS t (listed.setIfInBounds i true) mm ((d, v) :: σ) (cset Ω j m') K) : VI P n w0 ops ΩS t listed mm i σ Ω K :=
  VI.s (fun v => (d, v) :: σ) ho (fun v _ he => he.put hd v) hg (Stp.call j hf ha hm hc) (fun _ _ ⟨m', _, hΩ⟩ W hW => hS m' W (by subst hΩ; exact hW)) (fun v _ ⟨m', hp, hΩ⟩ => hΩ ▸ h v m' hp)
theorem VI.bsl {i : Nat} {ty : TypeId} {pos : String} {af : Array Edge} {listed : Array Bool} {mm : Nat} {dd : Nat} {t' e : TypeId} {s b len : Nat} {l : List (Nat × Operand)} {ps : List (Nat × Value)} {z cs : List Value} (j : Nat) (hd : Nat.blt dd n = true) (ho : ops[i]? = some ⟨some dd, .buildSlice t' len l.toArray, ty, pos, af, none⟩)
    (hl : evp σ l = some ps) (ht : tsl P t' = some (e, s, b)) (hz : tz P e = some z)
    (hsmall : Nat.ble (len * s) 16777216 = true) (hb : bld (fun i => some (i * s, s)) ((List.range (len * s)).map fun j => z.toArray[j % z.toArray.size]!) ps = some cs) (hS : ∀ W, Inv w0 Ω W → Inv w0 ΩS W)
    (h : ∀ g, VE P n w0 ops ΩS t (listed.setIfInBounds i true) mm ((dd, .slice (some ⟨g, 0, none⟩) len len) :: σ) ((j, mone g (.cells cs.toArray e (0, 0))) :: Ω) K) : VI P n w0 ops ΩS t listed mm i σ Ω K :=
  VI.s (fun v => (dd, v) :: σ) ho (fun v _ he => he.put hd v) (.inl rfl) (Stp.bsl j hl ht hz hsmall hb) (fun _ _ ⟨_, _, hΩ⟩ W hW => hS W (by subst hΩ; exact hW.tl)) (fun _ _ ⟨g, hv, hΩ⟩ => hv ▸ hΩ ▸ h g)
theorem VI.alloc {tt i : Nat} {listed : Array Bool} {mm : Nat} {dd : Nat} {t : TypeId} {ty : TypeId} {pos : String} {af : Array Edge} {z : List Value} (j : Nat) (hd : Nat.blt dd n = true) (ho : ops[i]? = some ⟨some dd, .alloc t, ty, pos, af, none⟩) (hz : tz P t = some z) (hS : ∀ g W, Inv w0 ((j, mone g (.cells z.toArray t (0, 0))) :: Ω) W → Inv w0 ΩS W)
    (h : ∀ g, VE P n w0 ops ΩS tt (listed.setIfInBounds i true) mm ((dd, .pointer (some ⟨g, 0, none⟩)) :: σ) ((j, mone g (.cells z.toArray t (0, 0))) :: Ω) K) : VI P n w0 ops ΩS tt listed mm i σ Ω K :=
  VI.s (fun v => (dd, v) :: σ) ho (fun v _ he => he.put hd v) (.inl rfl) (Stp.alloc j hz) (fun _ _ ⟨g, _, hΩ⟩ W hW => hS g W (by subst hΩ; exact hW)) (fun _ _ ⟨g, hv, hΩ⟩ => hv ▸ hΩ ▸ h g)
theorem VI.box {tt i : Nat} {listed : Array Bool} {mm : Nat} {dd : Nat} {t : TypeId} {x : Operand} {v : Value} {ty : TypeId} {pos : String} {af : Array Edge} {cs : List Value} (j : Nat) (hd : Nat.blt dd n = true) (ho : ops[i]? = some ⟨some dd, .box t x, ty, pos, af, none⟩) (hx : ev σ x = some v) (hc : v.cells = cs.toArray) (hS : ∀ g W, Inv w0 ((j, mone g (.cells cs.toArray t (0, 0))) :: Ω) W → Inv w0 ΩS W)
    (h : ∀ g, VE P n w0 ops ΩS tt (listed.setIfInBounds i true) mm ((dd, .pointer (some ⟨g, 0, none⟩)) :: σ) ((j, mone g (.cells cs.toArray t (0, 0))) :: Ω) K) : VI P n w0 ops ΩS tt listed mm i σ Ω K :=
  VI.s (fun v => (dd, v) :: σ) ho (fun v _ he => he.put hd v) (.inl rfl) (Stp.box j hx) (fun _ _ ⟨g, _, hΩ⟩ W hW => hS g W (by subst hΩ; rw [hc] at hW; exact hW)) (fun _ _ ⟨g, hv, hΩ⟩ => by rw [hv, hΩ, hc]; exact h g)
theorem VI.app {tt q : Nat} {listed : Array Bool} {mm : Nat} {ty : TypeId} {pos : String} {af : Array Edge} {s x : Operand} {t xt e : TypeId} {sz b len k dd : Nat} {v xv : Value} {cs xs z : List Value} (i : Nat) {m m0 : Mem} (hd : Nat.blt dd n = true) (ho : ops[q]? = some ⟨some dd, .call { callee := .builtin .append, args := [s, x].toArray, argTypes := [t, xt].toArray }, ty, pos, af, none⟩) (hsv : ev σ s = some v) (hxv : ev σ x = some xv) (ht : tsl P t = some (e, sz, b)) (hz : tz P e = some z) (hzl : z.length = sz)
    (hm : cget Ω i = some m) (hm0 : mle m0 m) (hown : OwnA sz m0 v len cs) (hs : Src P Ω sz xt xv k xs) (h1 : ∀ u ∈ xs, u.oneCell' = true) (hml : len + k ≤ maxLen) (hb : (len + k) * b ≤ 140737488355328) (hb0 : b ≠ 0) (hS : ∀ m' W, Inv w0 (cset Ω i m') W → Inv w0 ΩS W)
    (h : ∀ v' m', OwnA sz m' v' (len + k) (cs ++ xs) → VE P n w0 ops ΩS tt (listed.setIfInBounds q true) mm ((dd, v') :: σ) (cset Ω i m') K) : VI P n w0 ops ΩS tt listed mm q σ Ω K :=
  VI.s (fun v => (dd, v) :: σ) ho (fun v _ he => he.put hd v) (.inl rfl) (Stp.app i hsv hxv ht hz hzl hm hm0 hown hs h1 hml hb hb0) (fun _ _ ⟨m', _, hΩ⟩ W hW => hS m' W (by subst hΩ; exact hW)) (fun v _ ⟨m', hp, hΩ⟩ => hΩ ▸ h v m' hp)
theorem VI.appO {tt q : Nat} {listed : Array Bool} {mm : Nat} {ty : TypeId} {pos : String} {af : Array Edge} {e : Ty} {s x : Operand} {t xt et xe : TypeId} {b dd g c : Nat} {v : Value} {xs : List e.Den} {y : e.Den} {yc z : List Value} (i j k : Nat) {m mj mk : Mem} (hd : Nat.blt dd n = true) (ho : ops[q]? = some ⟨some dd, .call { callee := .builtin .append, args := [s, x].toArray, argTypes := [t, xt].toArray }, ty, pos, af, none⟩) (hsv : ev σ s = some v) (hxv : ev σ x = some (.slice (some ⟨g, 0, none⟩) 1 c)) (ht : tsl P t = some (et, e.sz, b)) (hz : tz P et = some z) (hzl : z.length = e.sz)
    (hm : cget Ω i = some m) (hj : cget (cdel Ω i) j = some mj) (hk : cget Ω k = some mk) (hown : Ow (.sl e) m [v] xs) (hy : Ow e mj yc y) (hxt : P.underlying xt = some (.slice xe)) (hc : cellsAt mk g 0 e.sz yc) (hml : xs.length + 1 ≤ maxLen) (hb : (xs.length + 1) * b ≤ 140737488355328) (hb0 : b ≠ 0) (hS : ∀ m' W, Inv w0 ((i, m') :: cdel (cdel Ω i) j) W → Inv w0 ΩS W)
    (h : ∀ v' m', Ow (.sl e) m' [v'] (xs ++ [y]) → VE P n w0 ops ΩS tt (listed.setIfInBounds q true) mm ((dd, v') :: σ) ((i, m') :: cdel (cdel Ω i) j) K) : VI P n w0 ops ΩS tt listed mm q σ Ω K :=
  VI.s (fun v => (dd, v) :: σ) ho (fun v _ he => he.put hd v) (.inl rfl) (Stp.appO i j k hsv hxv ht hz hzl hm hj hk hown hy hxt hc hml hb hb0) (fun _ _ ⟨m', _, hΩ⟩ W hW => hS m' W (by subst hΩ; exact hW)) (fun v _ ⟨m', hp, hΩ⟩ => hΩ ▸ h v m' hp)
theorem VI.store {tt q : Nat} {listed : Array Bool} {mm : Nat} {ty : TypeId} {pos : String} {af : Array Edge} {t : TypeId} {x y : Operand} {g off : Nat} {v : Value} {k : Nat} (i : Nat) {c : Array Value} {E : TypeId} {c' : List Value}
    (ho : ops[q]? = some ⟨none, .store t x y, ty, pos, af, none⟩)
    (hx : ev σ x = some (.pointer (some ⟨g, off, none⟩))) (hy : ev σ y = some v) (ht : tk P t = some (some k) ∨ (tk P t = some none ∧ k = 1)) (hk : Nat.beq v.cells.size k = true) (hn : nice v = true)
    (hm : cget Ω i = some (mone g (.cells c E (0, 0)))) (hl : Nat.ble (off + k) c.size = true) (hc : splice c.toList off v.cells.toList = c')
    (hS : ∀ W, Inv w0 (cset Ω i (mone g (.cells c'.toArray E (0, 0)))) W → Inv w0 ΩS W)
    (h : VE P n w0 ops ΩS tt (listed.setIfInBounds q true) mm σ (cset Ω i (mone g (.cells c'.toArray E (0, 0)))) K) : VI P n w0 ops ΩS tt listed mm q σ Ω K :=
  VI.s (fun _ => σ) ho (fun _ _ he => he) (.inl rfl) (Stp.store i hx hy ht hk hn hm (mone_self _ _) hl) (fun _ _ ⟨_, hΩ⟩ W hW => hS W (by rw [hΩ, mset_one, hc] at hW; exact hW)) (fun _ _ ⟨_, hΩ⟩ => by rw [hΩ, mset_one, hc]; exact h)
theorem VI.storeH {tt q : Nat} {listed : Array Bool} {mm : Nat} {ty : TypeId} {pos : String} {af : Array Edge} {t : TypeId} {x y : Operand} {g off : Nat} {v : Value} {k : Nat} (i : Nat) {c : Array Value} {E : TypeId} {c' : List Value}
    (ho : ops[q]? = some ⟨none, .store t x y, ty, pos, af, none⟩)
    (hx : ev σ x = some (.pointer (some ⟨g, off, none⟩))) (hy : ev σ y = some v) (ht : tk P t = some (some k) ∨ (tk P t = some none ∧ k = 1)) (hk : Nat.beq v.cells.size k = true) (hn : nice v = true)
    (hm : cget Ω i = some (mone g (.cells c E (0, 0)))) (hl : Nat.ble (off + k) c.size = true) (hc : splice c.toList off v.cells.toList = c')
    (hS : ∀ W, Inv w0 (cset Ω i (mone g (.cells c'.toArray E (0, 0)))) W → Inv w0 (lowS ΩS) W)
    (h : VE P n w0 ops (lowS ΩS) tt (listed.setIfInBounds q true) mm σ (cset Ω i (mone g (.cells c'.toArray E (0, 0)))) K) : VI P n w0 ops ΩS tt listed mm q σ Ω K :=
  VI.sH (fun _ => σ) ho (fun _ _ he => he) rfl (by unfold isSt; rw [ho]) (Stp.store i hx hy ht hk hn hm (mone_self _ _) hl) (fun _ _ ⟨_, hΩ⟩ W hW => hS W (by rw [hΩ, mset_one, hc] at hW; exact hW)) (fun _ _ ⟨_, hΩ⟩ => by rw [hΩ, mset_one, hc]; exact h)
end
end
section
set_option linter.unusedVariables false
abbrev Tdiskstep : Ty := .pair (.int .i64) (.pair (.int .i64) (.pair (.sl .byte) (.int .i64)))
abbrev Ddiskstep := Int × Int × (List UInt8) × Int
instance decdiskstep : DecidableEq Ddiskstep := (@instDecidableEqProd _ _ inferInstance (@instDecidableEqProd _ _ inferInstance (@instDecidableEqProd _ _ inferInstance inferInstance)))
theorem open_diskstep {m : Mem} {cs : List Value} {x0 : Int} {x1 : Int} {x2 : List UInt8} {x3 : Int} (h : Rd Tdiskstep m cs (x0, x1, x2, x3)) : ∃ (A2 : Option Addr), ∃ (c2 : Nat), cs = [(.int .i64 x0 : Value), .int .i64 x1, .slice A2 x2.length c2, .int .i64 x3] ∧ inK .i64 x0 ∧ inK .i64 x1 ∧ Rd (.sl .byte) m [.slice A2 x2.length c2] x2 ∧ inK .i64 x3 := by
  obtain ⟨p1, q1, rfl, u1, w1⟩ := Rd.pair h
  obtain ⟨rfl, z2⟩ := (show _ = _ ∧ _ from u1)
  obtain ⟨p3, q3, rfl, u3, w3⟩ := Rd.pair w1
  obtain ⟨rfl, z4⟩ := (show _ = _ ∧ _ from u3)
  obtain ⟨p5, q5, rfl, u5, w5⟩ := Rd.pair w3
  have z6 := u5
  obtain ⟨A6, c6, rfl, _⟩ := Rd.slice1 u5
  obtain ⟨rfl, z7⟩ := (show _ = _ ∧ _ from w5)
  exact ⟨A6, c6, rfl, z2, z4, z6, z7⟩
theorem mk_diskstep {m : Mem} (x0 : Int) (x1 : Int) (x2 : List UInt8) (x3 : Int) (h0 : inK .i64 x0) (h1 : inK .i64 x1) {v2 : Value} (h2 : Rd (.sl .byte) m [v2] x2) (h3 : inK .i64 x3) : Rd Tdiskstep m [.int .i64 x0, .int .i64 x1, v2, .int .i64 x3] (x0, x1, x2, x3) := (Rd.mkPair (c1 := [_]) (show Rd (.int .i64) m [_] _ from ⟨rfl, h0⟩) (Rd.mkPair (c1 := [_]) (show Rd (.int .i64) m [_] _ from ⟨rfl, h1⟩) (Rd.mkPair (c1 := [_]) h2 (show Rd (.int .i64) m [_] _ from ⟨rfl, h3⟩))))
theorem mkO_diskstep {m : Mem} {n2 : Mem} (x0 : Int) (x1 : Int) (x2 : List UInt8) (x3 : Int) (hS : Seps m [n2]) (h0 : inK .i64 x0) (h1 : inK .i64 x1) {v2 : Value} (h2 : Ow (.sl .byte) n2 [v2] x2) (h3 : inK .i64 x3) : Ow Tdiskstep m [.int .i64 x0, .int .i64 x1, v2, .int .i64 x3] (x0, x1, x2, x3) := by
  obtain ⟨e1, la1, lb1, Sa1, Sb1⟩ := Seps.cut (l := []) (r := [n2]) hS
  obtain ⟨e2, la2, lb2, Sa2, Sb2⟩ := Seps.cut (l := []) (r := [n2]) Sb1
  obtain ⟨e3, la3, lb3, Sa3, Sb3⟩ := Seps.cut (l := [n2]) (r := []) Sb2
  exact (Ow.mkPair (c1 := [_]) e1 la1 lb1 (show Ow (.int .i64) _ [_] _ from ⟨rfl, h0⟩) (Ow.mkPair (c1 := [_]) e2 la2 lb2 (show Ow (.int .i64) _ [_] _ from ⟨rfl, h1⟩) (Ow.mkPair (c1 := [_]) e3 la3 lb3 (h2.up (Sa3.1 _ (.head _))) (show Ow (.int .i64) _ [_] _ from ⟨rfl, h3⟩))))
abbrev TdiskDisk : Ty := .pair .bool (.pair .bool (.pair .bool (.pair (.int .i64) (.pair (.int .i64) (.pair (.pair (.sl .byte) (.pair (.sl .byte) (.pair (.sl .byte) (.sl .byte)))) (.sl Tdiskstep))))))
abbrev DdiskDisk := Bool × Bool × Bool × Int × Int × ((List UInt8) × (List UInt8) × (List UInt8) × (List UInt8)) × (List Ddiskstep)
instance decdiskDisk : DecidableEq DdiskDisk := (@instDecidableEqProd _ _ inferInstance (@instDecidableEqProd _ _ inferInstance (@instDecidableEqProd _ _ inferInstance (@instDecidableEqProd _ _ inferInstance (@instDecidableEqProd _ _ inferInstance (@instDecidableEqProd _ _ (@instDecidableEqProd _ _ inferInstance (@instDecidableEqProd _ _ inferInstance (@instDecidableEqProd _ _ inferInstance inferInstance))) inferInstance))))))
theorem openO_diskDisk {m : Mem} {cs : List Value} {x0 : Bool} {x1 : Bool} {x2 : Bool} {x3 : Int} {x4 : Int} {x5 : List UInt8} {x6 : List UInt8} {x7 : List UInt8} {x8 : List UInt8} {x9 : List Ddiskstep} (h : Ow TdiskDisk m cs (x0, x1, x2, x3, x4, (x5, x6, x7, x8), x9)) : ∃ (A5 : Option Addr), ∃ (c5 : Nat), ∃ (A6 : Option Addr), ∃ (c6 : Nat), ∃ (A7 : Option Addr), ∃ (c7 : Nat), ∃ (A8 : Option Addr), ∃ (c8 : Nat), ∃ (A9 : Option Addr), ∃ (c9 : Nat), ∃ (n5 : Mem), ∃ (n6 : Mem), ∃ (n7 : Mem), ∃ (n8 : Mem), ∃ (n9 : Mem), cs = [(.bool x0 : Value), .bool x1, .bool x2, .int .i64 x3, .int .i64 x4, .slice A5 x5.length c5, .slice A6 x6.length c6, .slice A7 x7.length c7, .slice A8 x8.length c8, .slice A9 x9.length c9] ∧ Seps m [n5, n6, n7, n8, n9] ∧ inK .i64 x3 ∧ inK .i64 x4 ∧ Ow (.sl .byte) n5 [.slice A5 x5.length c5] x5 ∧ Ow (.sl .byte) n6 [.slice A6 x6.length c6] x6 ∧ Ow (.sl .byte) n7 [.slice A7 x7.length c7] x7 ∧ Ow (.sl .byte) n8 [.slice A8 x8.length c8] x8 ∧ Ow (.sl Tdiskstep) n9 [.slice A9 x9.length c9] x9 := by
  obtain ⟨p1, q1, ma1, mb1, rfl, dj1, la1, lb1, u1, w1⟩ := Ow.pair h
  obtain rfl := (show _ = _ from u1)
  obtain ⟨p3, q3, ma3, mb3, rfl, dj3, la3, lb3, u3, w3⟩ := Ow.pair w1
  obtain rfl := (show _ = _ from u3)
  obtain ⟨p5, q5, ma5, mb5, rfl, dj5, la5, lb5, u5, w5⟩ := Ow.pair w3
  obtain rfl := (show _ = _ from u5)
  obtain ⟨p7, q7, ma7, mb7, rfl, dj7, la7, lb7, u7, w7⟩ := Ow.pair w5
  obtain ⟨rfl, z8⟩ := (show _ = _ ∧ _ from u7)
  obtain ⟨p9, q9, ma9, mb9, rfl, dj9, la9, lb9, u9, w9⟩ := Ow.pair w7
  obtain ⟨rfl, z10⟩ := (show _ = _ ∧ _ from u9)
  obtain ⟨p11, q11, ma11, mb11, rfl, dj11, la11, lb11, u11, w11⟩ := Ow.pair w9
  obtain ⟨p12, q12, ma12, mb12, rfl, dj12, la12, lb12, u12, w12⟩ := Ow.pair u11
  have z13 := u12
  obtain ⟨A13, c13, rfl, _⟩ := Ow.slice1 u12
  obtain ⟨p14, q14, ma14, mb14, rfl, dj14, la14, lb14, u14, w14⟩ := Ow.pair w12
  have z15 := u14
  obtain ⟨A15, c15, rfl, _⟩ := Ow.slice1 u14
  obtain ⟨p16, q16, ma16, mb16, rfl, dj16, la16, lb16, u16, w16⟩ := Ow.pair w14
  have z17 := u16
  obtain ⟨A17, c17, rfl, _⟩ := Ow.slice1 u16
  have z18 := w16
  obtain ⟨A18, c18, rfl, _⟩ := Ow.slice1 w16
  have z19 := w11
  obtain ⟨A19, c19, rfl, _⟩ := Ow.slice1 w11
  exact ⟨A13, c13, A15, c15, A17, c17, A18, c18, A19, c19, _, _, _, _, _, rfl, (Seps.app dj1 la1 lb1 (Seps.nil _) (Seps.app dj3 la3 lb3 (Seps.nil _) (Seps.app dj5 la5 lb5 (Seps.nil _) (Seps.app dj7 la7 lb7 (Seps.nil _) (Seps.app dj9 la9 lb9 (Seps.nil _) (Seps.app dj11 la11 lb11 (Seps.app dj12 la12 lb12 (Seps.one (mle_refl _)) (Seps.app dj14 la14 lb14 (Seps.one (mle_refl _)) (Seps.app dj16 la16 lb16 (Seps.one (mle_refl _)) (Seps.one (mle_refl _))))) (Seps.one (mle_refl _)))))))), z8, z10, z13, z15, z17, z18, z19⟩
theorem mkO_diskDisk {m : Mem} {n5 n6 n7 n8 n9 : Mem} (x0 : Bool) (x1 : Bool) (x2 : Bool) (x3 : Int) (x4 : Int) (x5 : List UInt8) (x6 : List UInt8) (x7 : List UInt8) (x8 : List UInt8) (x9 : List Ddiskstep) (hS : Seps m [n5, n6, n7, n8, n9]) (h3 : inK .i64 x3) (h4 : inK .i64 x4) {v5 : Value} (h5 : Ow (.sl .byte) n5 [v5] x5) {v6 : Value} (h6 : Ow (.sl .byte) n6 [v6] x6) {v7 : Value} (h7 : Ow (.sl .byte) n7 [v7] x7) {v8 : Value} (h8 : Ow (.sl .byte) n8 [v8] x8) {v9 : Value} (h9 : Ow (.sl Tdiskstep) n9 [v9] x9) : Ow TdiskDisk m [.bool x0, .bool x1, .bool x2, .int .i64 x3, .int .i64 x4, v5, v6, v7, v8, v9] (x0, x1, x2, x3, x4, (x5, x6, x7, x8), x9) := by
  obtain ⟨e1, la1, lb1, Sa1, Sb1⟩ := Seps.cut (l := []) (r := [n5, n6, n7, n8, n9]) hS
  obtain ⟨e2, la2, lb2, Sa2, Sb2⟩ := Seps.cut (l := []) (r := [n5, n6, n7, n8, n9]) Sb1
  obtain ⟨e3, la3, lb3, Sa3, Sb3⟩ := Seps.cut (l := []) (r := [n5, n6, n7, n8, n9]) Sb2
  obtain ⟨e4, la4, lb4, Sa4, Sb4⟩ := Seps.cut (l := []) (r := [n5, n6, n7, n8, n9]) Sb3
  obtain ⟨e5, la5, lb5, Sa5, Sb5⟩ := Seps.cut (l := []) (r := [n5, n6, n7, n8, n9]) Sb4
  obtain ⟨e6, la6, lb6, Sa6, Sb6⟩ := Seps.cut (l := [n5, n6, n7, n8]) (r := [n9]) Sb5
  obtain ⟨e7, la7, lb7, Sa7, Sb7⟩ := Seps.cut (l := [n5]) (r := [n6, n7, n8]) Sa6
  obtain ⟨e8, la8, lb8, Sa8, Sb8⟩ := Seps.cut (l := [n6]) (r := [n7, n8]) Sb7
  obtain ⟨e9, la9, lb9, Sa9, Sb9⟩ := Seps.cut (l := [n7]) (r := [n8]) Sb8
  exact (Ow.mkPair (c1 := [_]) e1 la1 lb1 (show Ow .bool _ [_] _ from rfl) (Ow.mkPair (c1 := [_]) e2 la2 lb2 (show Ow .bool _ [_] _ from rfl) (Ow.mkPair (c1 := [_]) e3 la3 lb3 (show Ow .bool _ [_] _ from rfl) (Ow.mkPair (c1 := [_]) e4 la4 lb4 (show Ow (.int .i64) _ [_] _ from ⟨rfl, h3⟩) (Ow.mkPair (c1 := [_]) e5 la5 lb5 (show Ow (.int .i64) _ [_] _ from ⟨rfl, h4⟩) (Ow.mkPair (c1 := [_, _, _, _]) e6 la6 lb6 (Ow.mkPair (c1 := [_]) e7 la7 lb7 (h5.up (Sa7.1 _ (.head _))) (Ow.mkPair (c1 := [_]) e8 la8 lb8 (h6.up (Sa8.1 _ (.head _))) (Ow.mkPair (c1 := [_]) e9 la9 lb9 (h7.up (Sa9.1 _ (.head _))) (h8.up (Sb9.1 _ (.head _)))))) (h9.up (Sb6.1 _ (.head _)))))))))
theorem openP_diskDisk {m : Mem} {cs : List Value} {g : Nat} {x0 : Bool} {x1 : Bool} {x2 : Bool} {x3 : Int} {x4 : Int} {x5 : List UInt8} {x6 : List UInt8} {x7 : List UInt8} {x8 : List UInt8} {x9 : List Ddiskstep} (h : Ow (.ptr TdiskDisk) m cs (g, (x0, x1, x2, x3, x4, (x5, x6, x7, x8), x9))) : ∃ (E : TypeId), ∃ (A5 : Option Addr), ∃ (c5 : Nat), ∃ (A6 : Option Addr), ∃ (c6 : Nat), ∃ (A7 : Option Addr), ∃ (c7 : Nat), ∃ (A8 : Option Addr), ∃ (c8 : Nat), ∃ (A9 : Option Addr), ∃ (c9 : Nat), ∃ (n5 : Mem), ∃ (n6 : Mem), ∃ (n7 : Mem), ∃ (n8 : Mem), ∃ (n9 : Mem), cs = [.pointer (some ⟨g, 0, none⟩)] ∧ Seps m [mone g (.cells [(.bool x0 : Value), .bool x1, .bool x2, .int .i64 x3, .int .i64 x4, .slice A5 x5.length c5, .slice A6 x6.length c6, .slice A7 x7.length c7, .slice A8 x8.length c8, .slice A9 x9.length c9].toArray E (0, 0)), n5, n6, n7, n8, n9] ∧ inK .i64 x3 ∧ inK .i64 x4 ∧ Ow (.sl .byte) n5 [.slice A5 x5.length c5] x5 ∧ Ow (.sl .byte) n6 [.slice A6 x6.length c6] x6 ∧ Ow (.sl .byte) n7 [.slice A7 x7.length c7] x7 ∧ Ow (.sl .byte) n8 [.slice A8 x8.length c8] x8 ∧ Ow (.sl Tdiskstep) n9 [.slice A9 x9.length c9] x9 := by
  obtain ⟨rfl, rc, E, m1, hd, l0, l1, h1⟩ := Ow.opnP h
  obtain ⟨A5, c5, A6, c6, A7, c7, A8, c8, A9, c9, n5, n6, n7, n8, n9, rfl, hS, f3, f4, f5, f6, f7, f8, f9⟩ := openO_diskDisk h1
  exact ⟨E, A5, c5, A6, c6, A7, c7, A8, c8, A9, c9, n5, n6, n7, n8, n9, rfl, Seps.app hd l0 l1 (Seps.one (mle_refl _)) hS, f3, f4, f5, f6, f7, f8, f9⟩
theorem mkP_diskDisk {m : Mem} {g : Nat} {E : TypeId} {n5 n6 n7 n8 n9 : Mem}{v5 : Value}{v6 : Value}{v7 : Value}{v8 : Value}{v9 : Value} (x0 : Bool) (x1 : Bool) (x2 : Bool) (x3 : Int) (x4 : Int) (x5 : List UInt8) (x6 : List UInt8) (x7 : List UInt8) (x8 : List UInt8) (x9 : List Ddiskstep) (hS : Seps m [mone g (.cells [.bool x0, .bool x1, .bool x2, .int .i64 x3, .int .i64 x4, v5, v6, v7, v8, v9].toArray E (0, 0)), n5, n6, n7, n8, n9]) (h3 : inK .i64 x3) (h4 : inK .i64 x4) (h5 : Ow (.sl .byte) n5 [v5] x5) (h6 : Ow (.sl .byte) n6 [v6] x6) (h7 : Ow (.sl .byte) n7 [v7] x7) (h8 : Ow (.sl .byte) n8 [v8] x8) (h9 : Ow (.sl Tdiskstep) n9 [v9] x9) : Ow (.ptr TdiskDisk) m [.pointer (some ⟨g, 0, none⟩)] (g, (x0, x1, x2, x3, x4, (x5, x6, x7, x8), x9)) :=
  Ow.clsP hS fun hS => mkO_diskDisk x0 x1 x2 x3 x4 x5 x6 x7 x8 x9 hS h3 h4 h5 h6 h7 h8 h9
abbrev Dref05Raw := Int × Bool × Int × (List UInt8)
instance decref05Raw : DecidableEq Dref05Raw := (@instDecidableEqProd _ _ inferInstance (@instDecidableEqProd _ _ inferInstance (@instDecidableEqProd _ _ inferInstance inferInstance)))
abbrev Dref05Disk := Bool × ((List UInt8) × (List UInt8) × (List UInt8) × (List UInt8)) × (List Dref05Raw) × Bool × Bool × Int × Int
instance decref05Disk : DecidableEq Dref05Disk := (@instDecidableEqProd _ _ inferInstance (@instDecidableEqProd _ _ (@instDecidableEqProd _ _ inferInstance (@instDecidableEqProd _ _ inferInstance (@instDecidableEqProd _ _ inferInstance inferInstance))) (@instDecidableEqProd _ _ inferInstance (@instDecidableEqProd _ _ inferInstance (@instDecidableEqProd _ _ inferInstance (@instDecidableEqProd _ _ inferInstance inferInstance))))))
abbrev Dlaw05Act := Int × Int × Int × Int × (List UInt8)
instance declaw05Act : DecidableEq Dlaw05Act := (@instDecidableEqProd _ _ inferInstance (@instDecidableEqProd _ _ inferInstance (@instDecidableEqProd _ _ inferInstance (@instDecidableEqProd _ _ inferInstance inferInstance))))
end
section
set_option linter.unusedVariables false
abbrev Dur := Bytes × Bytes × Bytes × Bytes
abbrev DStep := Ddiskstep
abbrev DDisk := DdiskDisk
def getF (q : Dur) (f : Int) : Bytes := if f = 0 then q.1 else if f = 1 then q.2.1 else if f = 2 then q.2.2.1 else q.2.2.2
def setF (q : Dur) (f : Int) (b : Bytes) : Dur := if f = 0 then (b, q.2) else if f = 1 then (q.1, b, q.2.2) else if f = 2 then (q.1, q.2.1, b, q.2.2.2) else (q.1, q.2.1, q.2.2.1, b)
def doneB (b : Bytes) (s : DStep) : Bytes := if s.1 = 0 then b ++ s.2.2.1 else if s.1 = 1 then b.take s.2.2.2.toNat else b
def stepQ (q : Dur) (s : DStep) : Dur := setF q s.2.1 (doneB (getF q s.2.1) s)
def play (q : Dur) (l : List DStep) : Dur := l.foldl stepQ q
def heldStep (f : Int) (b : Bytes) (s : DStep) : Bytes := if s.2.1 = f then doneB b s else b
def heldB (q : Dur) (l : List DStep) (f : Int) : Bytes := l.foldl (heldStep f) (getF q f)
def inF (f : Int) : Prop := 0 ≤ f ∧ f < 4
instance (f : Int) : Decidable (inF f) := by unfold inF; infer_instance
theorem get_set {q : Dur} {f g : Int} {b : Bytes} (hf : inF f) (hg : inF g) : getF (setF q f b) g = if f = g then b else getF q g := by
  obtain ⟨h0, h1⟩ := hf; obtain ⟨h2, h3⟩ := hg
  obtain rfl | rfl | rfl | rfl : f = 0 ∨ f = 1 ∨ f = 2 ∨ f = 3 := by omega
  all_goals obtain rfl | rfl | rfl | rfl : g = 0 ∨ g = 1 ∨ g = 2 ∨ g = 3 := by omega
  all_goals rfl
/-- A step that may be pending. -/
def goodSt (q : Dur) (s : DStep) : Prop := (s.1 = 0 ∨ s.1 = 1) ∧ inF s.2.1 ∧ (s.1 = 0 → 1 ≤ s.2.2.1.length ∧ s.2.2.1.length ≤ 64) ∧ (s.1 = 1 → 0 ≤ s.2.2.2 ∧ s.2.2.2 ≤ (getF q s.2.1).length)
def goodL : Dur → List DStep → Prop
  | _, [] => True
  | q, s :: r => goodSt q s ∧ goodL (stepQ q s) r
theorem goodL_app : ∀ {l r : List DStep} {q : Dur}, goodL q (l ++ r) ↔ goodL q l ∧ goodL (play q l) r
  | [], r, q => by simp [goodL, play]
  | s :: l, r, q => by
    show goodSt q s ∧ goodL (stepQ q s) (l ++ r) ↔ (goodSt q s ∧ goodL (stepQ q s) l) ∧ goodL (play (stepQ q s) l) r
    rw [goodL_app (l := l), and_assoc]
theorem play_held : ∀ {l : List DStep} {q : Dur} {f : Int}, goodL q l → inF f → getF (play q l) f = heldB q l f
  | [], q, f, _, _ => rfl
  | s :: l, q, f, h, hf => by
    show getF (play (stepQ q s) l) f = _
    rw [play_held h.2 hf]
    show l.foldl (heldStep f) (getF (stepQ q s) f) = l.foldl (heldStep f) (heldStep f (getF q f) s)
    rw [stepQ, get_set h.1.2.1 hf]
    unfold heldStep
    split
    · rename_i he; rw [he]
    · rfl
def sizeQ (q : Dur) : Nat := q.1.length + q.2.1.length + q.2.2.1.length + q.2.2.2.length
def sizeL (l : List DStep) : Nat := (l.map fun s => s.2.2.1.length).sum
theorem sizeL_cons (s : DStep) (l : List DStep) : sizeL (s :: l) = s.2.2.1.length + sizeL l := by simp [sizeL]
theorem sizeL_app (l r : List DStep) : sizeL (l ++ r) = sizeL l + sizeL r := by simp [sizeL]
theorem getF_size (q : Dur) (f : Int) : (getF q f).length ≤ sizeQ q := by unfold getF sizeQ; split <;> (try split) <;> (try split) <;> omega
theorem setF_size {q : Dur} {f : Int} {b : Bytes} : sizeQ (setF q f b) + (getF q f).length = sizeQ q + b.length := by
  unfold setF getF sizeQ
  split
  · dsimp only; omega
  · split
    · dsimp only; omega
    · split <;> (dsimp only; omega)
theorem doneB_size (b : Bytes) (s : DStep) : (doneB b s).length ≤ b.length + s.2.2.1.length := by
  unfold doneB
  split
  · simp
  · split
    · simp only [List.length_take]; omega
    · omega
theorem stepQ_size (q : Dur) (s : DStep) : sizeQ (stepQ q s) ≤ sizeQ q + s.2.2.1.length := by
  have := setF_size (q := q) (f := s.2.1) (b := doneB (getF q s.2.1) s)
  have := doneB_size (getF q s.2.1) s
  unfold stepQ
  omega
theorem play_size : ∀ (l : List DStep) (q : Dur), sizeQ (play q l) ≤ sizeQ q + sizeL l
  | [], q => by simp [play, sizeL]
  | s :: l, q => by
    have h1 := play_size l (stepQ q s)
    have h2 := stepQ_size q s
    rw [sizeL_cons]
    show sizeQ (play (stepQ q s) l) ≤ _
    omega
theorem foldl_heldStep_size (f : Int) : ∀ (l : List DStep) (b : Bytes), (l.foldl (heldStep f) b).length ≤ b.length + sizeL l
  | [], b => by simp [sizeL]
  | s :: l, b => by
    have h1 := foldl_heldStep_size f l (heldStep f b s)
    have h2 : (heldStep f b s).length ≤ b.length + s.2.2.1.length := by
      unfold heldStep
      split
      · exact doneB_size b s
      · omega
    rw [sizeL_cons, List.foldl_cons]; omega
theorem heldB_size (q : Dur) (l : List DStep) (f : Int) : (heldB q l f).length ≤ sizeQ q + sizeL l := by
  have := foldl_heldStep_size f l (getF q f)
  have := getF_size q f
  unfold heldB; omega
def okD (d : DDisk) : Prop := goodL d.2.2.2.2.2.1 d.2.2.2.2.2.2 ∧ 0 ≤ d.2.2.2.1 ∧ 0 ≤ d.2.2.2.2.1
def wD (d : DDisk) : Nat := sizeQ d.2.2.2.2.2.1 + sizeL d.2.2.2.2.2.2 + d.2.2.2.2.2.2.length + d.2.2.2.2.1.toNat
def newD : DDisk := (true, false, false, 0, 0, ([], [], [], []), [])
theorem okD_new : okD newD := ⟨trivial, Int.le_refl _, Int.le_refl _⟩
def wrongD (d : DDisk) : Int := if d.1 = false then 1 else if d.2.1 = true then 6 else 0
def burnD (d : DDisk) : DDisk × Bool := if d.2.2.1 = true then (if d.2.2.2.1 = 0 then ((d.1, true, d.2.2), false) else ((d.1, d.2.1, d.2.2.1, d.2.2.2.1 - 1, d.2.2.2.2.1 + 1, d.2.2.2.2.2), true)) else ((d.1, d.2.1, d.2.2.1, d.2.2.2.1, d.2.2.2.2.1 + 1, d.2.2.2.2.2), true)
def addP (d : DDisk) (s : DStep) : DDisk := (d.1, d.2.1, d.2.2.1, d.2.2.2.1, d.2.2.2.2.1, d.2.2.2.2.2.1, d.2.2.2.2.2.2 ++ [s])
theorem getF0 {q : Dur} {f : Int} (h : f = 0) : getF q f = q.1 := by subst h; rfl
theorem getF1 {q : Dur} {f : Int} (h : f = 1) : getF q f = q.2.1 := by subst h; rfl
theorem getF2 {q : Dur} {f : Int} (h : f = 2) : getF q f = q.2.2.1 := by subst h; rfl
theorem getF3 {q : Dur} {f : Int} (h : f = 3) : getF q f = q.2.2.2 := by subst h; rfl
theorem setQ0 {q : Dur} {f : Int} {b : Bytes} (h : f = 0) : setF q f b = (b, q.2) := by subst h; rfl
theorem setQ1 {q : Dur} {f : Int} {b : Bytes} (h : f = 1) : setF q f b = (q.1, b, q.2.2) := by subst h; rfl
theorem setQ2 {q : Dur} {f : Int} {b : Bytes} (h : f = 2) : setF q f b = (q.1, q.2.1, b, q.2.2.2) := by subst h; rfl
theorem setQ3 {q : Dur} {f : Int} {b : Bytes} (h : f = 3) : setF q f b = (q.1, q.2.1, q.2.2.1, b) := by subst h; rfl
def settleD (d : DDisk) (k : Nat) : DDisk := (d.1, d.2.1, d.2.2.1, d.2.2.2.1, d.2.2.2.2.1, play d.2.2.2.2.2.1 (d.2.2.2.2.2.2.take k), d.2.2.2.2.2.2.drop k)
theorem get_take {α : Type} {l : List α} {n k : Nat} {x : α} (h : (l.take n)[k]? = some x) : l[k]? = some x := by
  rw [List.getElem?_take] at h
  split at h
  · exact h
  · cases h
theorem drop_split {α : Type} {l : List α} {k : Nat} {x : α} (h : l[k]? = some x) : l = l.take k ++ x :: l.drop (k + 1) := by
  obtain ⟨h1, h2⟩ := List.getElem?_eq_some_iff.1 h
  rw [← h2, ← List.drop_eq_getElem_cons h1, List.take_append_drop]
section
variable {q : Dur} {l : List DStep} {f : Int} {b : Bytes} {k : Nat} {s : DStep}
theorem held_next (hb : b = heldB q (l.take k) f) (hs : l[k]? = some s) : heldStep f b s = heldB q (l.take (k + 1)) f := by
  rw [hb, heldB, heldB, List.take_add_one, hs, List.foldl_append]; rfl
theorem held_yes (hb : b = heldB q (l.take k) f) (hs : l[k]? = some s) (h : s.2.1 = f) : doneB b s = heldB q (l.take (k + 1)) f := by
  rw [← held_next hb hs, heldStep, if_pos h]
theorem held_no (hb : b = heldB q (l.take k) f) (hs : l[k]? = some s) (h : ¬ s.2.1 = f) : b = heldB q (l.take (k + 1)) f := by
  rw [← held_next hb hs, heldStep, if_neg h]
theorem good_at (hg : goodL q l) (hs : l[k]? = some s) : goodSt (play q (l.take k)) s ∧ goodL q (l.take k) := by
  rw [drop_split hs, goodL_app] at hg
  exact ⟨hg.2.1, hg.1⟩
theorem held_cut (hg : goodL q l) (hb : b = heldB q (l.take k) f) (hs : l[k]? = some s) (hf : inF f) (h : s.2.1 = f) : s.1 = 1 → 0 ≤ s.2.2.2 ∧ s.2.2.2 ≤ b.length := by
  obtain ⟨h1, h2⟩ := good_at hg hs
  intro h3
  have := h1.2.2.2 h3
  rw [h, play_held h2 hf, ← hb] at this
  exact this
theorem sizeL_take (hs : l[k]? = some s) : sizeL (l.take k) + s.2.2.1.length ≤ sizeL l := by
  conv => rhs; rw [drop_split hs]
  rw [sizeL_app, sizeL_cons]; omega
theorem held_room (hb : b = heldB q (l.take k) f) (hs : l[k]? = some s) : b.length + s.2.2.1.length ≤ sizeQ q + sizeL l := by
  have h1 := heldB_size q (l.take k) f
  have h2 := sizeL_take hs
  rw [hb]; omega
theorem play_next {q0 : Dur} (hb : q = play q0 (l.take k)) (hs : l[k]? = some s) : stepQ q s = play q0 (l.take (k + 1)) := by
  rw [hb, play, play, List.take_add_one, hs, List.foldl_append]; rfl
theorem play_cut {q0 : Dur} (hg : goodL q0 l) (hb : q = play q0 (l.take k)) (hs : l[k]? = some s) : inF s.2.1 ∧ (s.1 = 1 → 0 ≤ s.2.2.2 ∧ s.2.2.2 ≤ (getF q s.2.1).length) := by
  obtain ⟨h1, h2⟩ := good_at hg hs
  subst hb
  exact ⟨h1.2.1, h1.2.2.2⟩
theorem play_room {q0 : Dur} (hb : q = play q0 (l.take k)) (hs : l[k]? = some s) : (getF q s.2.1).length + s.2.2.1.length ≤ sizeQ q0 + sizeL l := by
  have h1 := play_size (l.take k) q0
  have h2 := sizeL_take hs
  have h3 := getF_size q s.2.1
  subst hb; omega
end
end
section
set_option linter.unusedVariables false
theorem burn_ok {d : DDisk} (h : okD d) : okD (burnD d).1 := by
  obtain ⟨h1, h2, h3⟩ := h
  unfold burnD
  split
  · split
    · exact ⟨h1, h2, h3⟩
    · exact ⟨h1, by dsimp only; omega, by dsimp only; omega⟩
  · exact ⟨h1, h2, by dsimp only; omega⟩
theorem burn_w {d : DDisk} (h : okD d) : wD (burnD d).1 ≤ wD d + 1 := by
  have h3 := h.2.2
  unfold burnD
  split
  · split
    · show wD d ≤ _; omega
    · simp only [wD]; omega
  · simp only [wD]; omega
theorem burn_same (d : DDisk) : (burnD d).1.1 = d.1 ∧ (burnD d).1.2.2.2.2.2 = d.2.2.2.2.2 := by
  unfold burnD
  split
  · split <;> exact ⟨rfl, rfl⟩
  · exact ⟨rfl, rfl⟩
theorem add_ok {d : DDisk} {s : DStep} (h : okD d) (hs : goodSt (play d.2.2.2.2.2.1 d.2.2.2.2.2.2) s) : okD (addP d s) :=
  ⟨goodL_app.2 ⟨h.1, hs, trivial⟩, h.2⟩
theorem add_w (d : DDisk) (s : DStep) : wD (addP d s) = wD d + s.2.2.1.length + 1 := by
  simp only [wD, addP, sizeL_app, sizeL_cons, List.length_append, List.length_cons, List.length_nil]
  show sizeQ _ + (sizeL _ + (s.2.2.1.length + sizeL [])) + _ + _ = _
  simp only [sizeL, List.map_nil, List.sum_nil]
  omega
theorem settle_ok {d : DDisk} (k : Nat) (h : okD d) : okD (settleD d k) := by
  obtain ⟨h1, h2⟩ := h
  rw [← List.take_append_drop k d.2.2.2.2.2.2, goodL_app] at h1
  exact ⟨h1.2, h2⟩
theorem settle_w (d : DDisk) (k : Nat) : wD (settleD d k) ≤ wD d := by
  have h1 := play_size (d.2.2.2.2.2.2.take k) d.2.2.2.2.2.1
  have h2 : sizeL d.2.2.2.2.2.2 = sizeL (d.2.2.2.2.2.2.take k) + sizeL (d.2.2.2.2.2.2.drop k) := by rw [← sizeL_app, List.take_append_drop]
  simp only [wD, settleD, List.length_drop]
  omega
def writeGo : Nat → DDisk → Int → Bytes → DDisk × Int
  | 0, d, _, _ => (d, 0)
  | n + 1, d, f, b => if b.length = 0 then (d, 0) else if (burnD d).2 = true then writeGo n (addP (burnD d).1 (0, f, b.take 64, 0)) f (b.drop 64) else ((burnD d).1, 6)
def dWrite (d : DDisk) (f : Int) (b : Bytes) : DDisk × Int := if ¬ wrongD d = 0 then (d, wrongD d) else if ¬ inF f then (d, 2) else writeGo b.length d f b
section
variable {d d' : DDisk} {f : Int} {b : Bytes} {n m : Nat} {p : DDisk × Int}
theorem write_end (hp : p = writeGo n d f b) (hb : b.length = 0) : p = (d, 0) := by
  rw [hp]; cases n with
  | zero => rfl
  | succ n => exact if_pos hb
theorem write_off (hp : p = writeGo n d f b) (hn : b.length ≤ n) (hb : 0 < b.length) (h : ¬ (burnD d).2 = true) : p = ((burnD d).1, 6) := by
  rw [hp]; cases n with
  | zero => omega
  | succ n => rw [writeGo, if_neg (by omega), if_neg h]
theorem write_step (hp : p = writeGo n d f b) (hn : b.length ≤ n) (hb : 0 < b.length) (h : (burnD d).2 = true) (hm : m = min b.length 64) : p = writeGo (n - 1) (addP (burnD d).1 (0, f, b.take m, 0)) f (b.drop m) := by
  rw [hp]; cases n with
  | zero => omega
  | succ n =>
    rw [writeGo, if_neg (by omega), if_pos h]
    have h1 : b.take m = b.take 64 := by
      by_cases h0 : b.length ≤ 64
      · rw [hm, List.take_of_length_le (by omega), List.take_of_length_le h0]
      · rw [hm, Nat.min_eq_right (by omega)]
    have h2 : b.drop m = b.drop 64 := by
      by_cases h0 : b.length ≤ 64
      · rw [hm, List.drop_of_length_le (by omega), List.drop_of_length_le h0]
      · rw [hm, Nat.min_eq_right (by omega)]
    rw [h1, h2]; rfl
theorem step_ok (h : okD d) (hf : inF f) (hb : 0 < b.length) (hm : m = min b.length 64) : okD (addP (burnD d).1 (0, f, b.take m, 0)) :=
  add_ok (burn_ok h) ⟨.inl rfl, hf, fun _ => by simp only [List.length_take]; omega, fun h => by cases h⟩
theorem step_w (h : okD d) (hb : 0 < b.length) (hm : m = min b.length 64) : wD (addP (burnD d).1 (0, f, b.take m, 0)) + 3 * (b.drop m).length ≤ wD d + 3 * b.length := by
  have h1 := burn_w h
  rw [add_w]
  simp only [List.length_take, List.length_drop]
  omega
theorem writeGo_ok : ∀ (n : Nat) {d : DDisk} {b : Bytes}, okD d → inF f → okD (writeGo n d f b).1 ∧ wD (writeGo n d f b).1 ≤ wD d + 3 * b.length + 1
  | 0, d, b, h, _ => ⟨h, by show wD d ≤ _; omega⟩
  | n + 1, d, b, h, hf => by
    unfold writeGo
    split
    · exact ⟨h, by show wD d ≤ _; omega⟩
    · rename_i h0
      split
      · have e1 : b.take 64 = b.take (min b.length 64) := by
          by_cases h0 : b.length ≤ 64
          · rw [Nat.min_eq_left h0, List.take_of_length_le h0, List.take_of_length_le (Nat.le_refl _)]
          · rw [Nat.min_eq_right (by omega)]
        have h1 := step_ok (m := min b.length 64) h hf (by omega) rfl
        have h2 := step_w (f := f) (m := min b.length 64) h (by omega) rfl
        rw [← e1] at h1 h2
        obtain ⟨k1, k2⟩ := writeGo_ok n (b := b.drop 64) h1 hf
        simp only [List.length_drop] at h2 k2
        exact ⟨k1, by omega⟩
      · have := burn_w h
        exact ⟨burn_ok h, by dsimp only; omega⟩
end
theorem write_ok {d : DDisk} {f : Int} {b : Bytes} (h : okD d) : okD (dWrite d f b).1 := by
  unfold dWrite; split
  · exact h
  · split
    · exact h
    · rename_i hf; exact (writeGo_ok _ h (Decidable.not_not.1 hf)).1
theorem write_w {d : DDisk} {f : Int} {b : Bytes} (h : okD d) : wD (dWrite d f b).1 ≤ wD d + 3 * b.length + 1 := by
  unfold dWrite; split
  · show wD d ≤ _; omega
  · split
    · show wD d ≤ _; omega
    · rename_i hf; exact (writeGo_ok _ h (Decidable.not_not.1 hf)).2
def dCut (d : DDisk) (f n : Int) : DDisk × Int := if ¬ wrongD d = 0 then (d, wrongD d) else if ¬ inF f ∨ n < 0 ∨ ((heldB d.2.2.2.2.2.1 d.2.2.2.2.2.2 f).length : Int) < n then (d, 2) else
  if (burnD d).2 = true then (addP (burnD d).1 (1, f, [], n), 0) else ((burnD d).1, 6)
theorem cut_ok {d : DDisk} {f n : Int} (h : okD d) : okD (dCut d f n).1 := by
  unfold dCut; split
  · exact h
  · split
    · exact h
    · rename_i h1
      have hf : inF f := Decidable.byContradiction fun q => h1 (.inl q)
      have hn : ¬ n < 0 := fun q => h1 (.inr (.inl q))
      have hl : ¬ ((heldB d.2.2.2.2.2.1 d.2.2.2.2.2.2 f).length : Int) < n := fun q => h1 (.inr (.inr q))
      split
      · refine add_ok (burn_ok h) ⟨.inr rfl, hf, fun h => (by cases h), fun _ => ?_⟩
        rw [(burn_same d).2]
        rw [play_held h.1 hf]
        dsimp only; omega
      · exact burn_ok h
theorem cut_w {d : DDisk} {f n : Int} (h : okD d) : wD (dCut d f n).1 ≤ wD d + 2 := by
  have := burn_w h
  unfold dCut; split
  · show wD d ≤ _; omega
  · split
    · show wD d ≤ _; omega
    · split
      · rw [add_w]; simp only [List.length_nil]; omega
      · dsimp only; omega
def dSync (d : DDisk) : DDisk × Int := if ¬ wrongD d = 0 then (d, wrongD d) else if (burnD d).2 = true then (settleD (burnD d).1 (burnD d).1.2.2.2.2.2.2.length, 0) else ((burnD d).1, 6)
theorem sync_ok {d : DDisk} (h : okD d) : okD (dSync d).1 := by
  unfold dSync; split
  · exact h
  · split
    · exact settle_ok _ (burn_ok h)
    · exact burn_ok h
theorem sync_w {d : DDisk} (h : okD d) : wD (dSync d).1 ≤ wD d + 1 := by
  have h1 := burn_w h
  unfold dSync; split
  · show wD d ≤ _; omega
  · split
    · have := settle_w (burnD d).1 (burnD d).1.2.2.2.2.2.2.length
      dsimp only; omega
    · dsimp only; omega
def dRead (d : DDisk) (f : Int) : Bytes × Int := if ¬ wrongD d = 0 then ([], wrongD d) else if ¬ inF f then ([], 2) else (heldB d.2.2.2.2.2.1 d.2.2.2.2.2.2 f, 0)
theorem read_size (d : DDisk) (f : Int) : (dRead d f).1.length ≤ wD d := by
  have := heldB_size d.2.2.2.2.2.1 d.2.2.2.2.2.2 f
  unfold dRead; split
  · exact Nat.zero_le _
  · split
    · exact Nat.zero_le _
    · dsimp only [wD]; omega
def dFuse (d : DDisk) (n : Int) : DDisk × Int := if ¬ wrongD d = 0 then (d, wrongD d) else if n < 0 then (d, 2) else ((d.1, d.2.1, true, n, d.2.2.2.2), 0)
theorem fuse_ok {d : DDisk} {n : Int} (h : okD d) : okD (dFuse d n).1 := by
  unfold dFuse; split
  · exact h
  · split
    · exact h
    · exact ⟨h.1, by dsimp only; omega, h.2.2⟩
theorem fuse_w (d : DDisk) (n : Int) : wD (dFuse d n).1 = wD d := by
  unfold dFuse; split
  · rfl
  · split <;> rfl
def dPull (d : DDisk) : DDisk × Int := if ¬ wrongD d = 0 then (d, wrongD d) else ((d.1, true, d.2.2), 0)
theorem pull_ok {d : DDisk} (h : okD d) : okD (dPull d).1 := by unfold dPull; split <;> exact h
theorem pull_w (d : DDisk) : wD (dPull d).1 = wD d := by unfold dPull; split <;> rfl
def tornQ (d : DDisk) (t : Int) : Dur := match d.2.2.2.2.2.2 with
  | [] => d.2.2.2.2.2.1
  | s :: _ => if s.1 = 0 then stepQ d.2.2.2.2.2.1 (s.1, s.2.1, s.2.2.1.take (min t ((s.2.2.1.length : Int) - 1)).toNat, s.2.2.2) else d.2.2.2.2.2.1
def dStart (d : DDisk) (k t : Int) : DDisk × Int := if d.1 = false then (d, 1) else if d.2.1 = false ∨ k < 0 ∨ t < 0 then (d, 2) else
  ((d.1, false, false, 0, d.2.2.2.2.1, tornQ (settleD d (min k d.2.2.2.2.2.2.length).toNat) t, []), 0)
theorem torn_size (d : DDisk) (t : Int) : sizeQ (tornQ d t) ≤ sizeQ d.2.2.2.2.2.1 + sizeL d.2.2.2.2.2.2 := by
  unfold tornQ
  split
  · omega
  · rename_i s r hl
    rw [hl, sizeL_cons]
    split
    · have := stepQ_size d.2.2.2.2.2.1 (s.1, s.2.1, s.2.2.1.take (min t ((s.2.2.1.length : Int) - 1)).toNat, s.2.2.2)
      simp only [List.length_take] at this
      omega
    · omega
theorem start_ok {d : DDisk} {k t : Int} (h : okD d) : okD (dStart d k t).1 := by
  unfold dStart; split
  · exact h
  · split
    · exact h
    · exact ⟨trivial, Int.le_refl _, h.2.2⟩
theorem start_w (d : DDisk) (k t : Int) : wD (dStart d k t).1 ≤ wD d := by
  unfold dStart; split
  · show wD d ≤ _; omega
  · split
    · show wD d ≤ _; omega
    · have h1 := torn_size (settleD d (min k d.2.2.2.2.2.2.length).toNat) t
      have h2 := settle_w d (min k d.2.2.2.2.2.2.length).toNat
      simp only [wD] at h2 ⊢
      show sizeQ _ + 0 + 0 + _ ≤ _
      have : (settleD d (min k d.2.2.2.2.2.2.length).toNat).2.2.2.2.1 = d.2.2.2.2.1 := rfl
      omega
def dPending (d : DDisk) : Int := if d.1 = false then 0 else d.2.2.2.2.2.2.length
def dDurable (d : DDisk) (f : Int) : Bytes := if d.1 = false ∨ ¬ inF f then [] else getF d.2.2.2.2.2.1 f
theorem durable_go {d : DDisk} {f : Int} (h : ¬ d.1 = false) (h2 : ¬ ¬ inF f) : dDurable d f = getF d.2.2.2.2.2.1 f := if_neg fun q => q.elim h h2
theorem len_w (d : DDisk) : d.2.2.2.2.2.2.length ≤ wD d := by unfold wD; omega
theorem write_bad1 {d : DDisk} {f : Int} {b : Bytes} (h : ¬ wrongD d = 0) : dWrite d f b = (d, wrongD d) := if_pos h
theorem write_bad2 {d : DDisk} {f : Int} {b : Bytes} (h : ¬ ¬ wrongD d = 0) (h2 : ¬ inF f) : dWrite d f b = (d, 2) := by unfold dWrite; rw [if_neg h, if_pos h2]
theorem write_go {d : DDisk} {f : Int} {b : Bytes} (h : ¬ ¬ wrongD d = 0) (h2 : ¬ ¬ inF f) : dWrite d f b = writeGo b.length d f b := by unfold dWrite; rw [if_neg h, if_neg h2]
theorem cut_bad1 {d : DDisk} {f n : Int} (h : ¬ wrongD d = 0) : dCut d f n = (d, wrongD d) := if_pos h
theorem cut_bad2 {d : DDisk} {f n : Int} (h : ¬ ¬ wrongD d = 0) (h2 : ¬ inF f ∨ n < 0 ∨ ((heldB d.2.2.2.2.2.1 d.2.2.2.2.2.2 f).length : Int) < n) : dCut d f n = (d, 2) := by unfold dCut; rw [if_neg h, if_pos h2]
theorem cut_go {d : DDisk} {f n : Int} (h : ¬ ¬ wrongD d = 0) (h1 : ¬ ¬ inF f) (h2 : ¬ n < 0) (h3 : ¬ ((heldB d.2.2.2.2.2.1 d.2.2.2.2.2.2 f).length : Int) < n) (h4 : ¬ ¬ (burnD d).2 = true) : dCut d f n = (addP (burnD d).1 (1, f, [], n), 0) := by
  unfold dCut; rw [if_neg h, if_neg (fun q => q.elim h1 fun q => q.elim h2 h3), if_pos (Decidable.not_not.1 h4)]
theorem cut_off {d : DDisk} {f n : Int} (h : ¬ ¬ wrongD d = 0) (h1 : ¬ ¬ inF f) (h2 : ¬ n < 0) (h3 : ¬ ((heldB d.2.2.2.2.2.1 d.2.2.2.2.2.2 f).length : Int) < n) (h4 : ¬ (burnD d).2 = true) : dCut d f n = ((burnD d).1, 6) := by
  unfold dCut; rw [if_neg h, if_neg (fun q => q.elim h1 fun q => q.elim h2 h3), if_neg h4]
theorem sync_bad {d : DDisk} (h : ¬ wrongD d = 0) : dSync d = (d, wrongD d) := if_pos h
theorem sync_off {d : DDisk} (h : ¬ ¬ wrongD d = 0) (h4 : ¬ (burnD d).2 = true) : dSync d = ((burnD d).1, 6) := by unfold dSync; rw [if_neg h, if_neg h4]
theorem sync_go {d : DDisk} (h : ¬ ¬ wrongD d = 0) (h4 : ¬ ¬ (burnD d).2 = true) : dSync d = (settleD (burnD d).1 (burnD d).1.2.2.2.2.2.2.length, 0) := by unfold dSync; rw [if_neg h, if_pos (Decidable.not_not.1 h4)]
theorem start_bad1 {d : DDisk} {k t : Int} (h : d.1 = false) : dStart d k t = (d, 1) := if_pos h
theorem start_bad2 {d : DDisk} {k t : Int} (h : ¬ d.1 = false) (h2 : d.2.1 = false ∨ k < 0 ∨ t < 0) : dStart d k t = (d, 2) := by unfold dStart; rw [if_neg h, if_pos h2]
theorem start_go {d : DDisk} {k t : Int} (h : ¬ d.1 = false) (h2 : d.2.1 = true) (h3 : ¬ k < 0) (h4 : ¬ t < 0) : dStart d k t = ((d.1, false, false, 0, d.2.2.2.2.1, tornQ (settleD d (min k d.2.2.2.2.2.2.length).toNat) t, []), 0) := by
  unfold dStart; rw [if_neg h, if_neg (fun q => q.elim (fun q => absurd (h2.symm.trans q) (by decide)) fun q => q.elim h3 h4)]
theorem torn_nil {d : DDisk} {t : Int} (h : d.2.2.2.2.2.2.length ≤ 0) : tornQ d t = d.2.2.2.2.2.1 := by unfold tornQ; rw [List.eq_nil_of_length_eq_zero (Nat.le_zero.1 h)]
theorem torn_no {d : DDisk} {t : Int} {s : DStep} (hs : d.2.2.2.2.2.2[0]? = some s) (h : ¬ s.1 = 0) : tornQ d t = d.2.2.2.2.2.1 := by
  unfold tornQ
  cases hl : d.2.2.2.2.2.2 with
  | nil => rfl
  | cons x r => rw [hl] at hs; cases hs; exact if_neg h
theorem torn_yes {d : DDisk} {t : Int} {s : DStep} (hs : d.2.2.2.2.2.2[0]? = some s) (h : s.1 = 0) : tornQ d t = stepQ d.2.2.2.2.2.1 (s.1, s.2.1, s.2.2.1.take (min t ((s.2.2.1.length : Int) - 1)).toNat, s.2.2.2) := by
  unfold tornQ
  cases hl : d.2.2.2.2.2.2 with
  | nil => rw [hl] at hs; cases hs
  | cons x r => rw [hl] at hs; cases hs; exact if_pos h
theorem start_good {d : DDisk} {s : DStep} (h : okD d) (hs : d.2.2.2.2.2.2[0]? = some s) : inF s.2.1 ∧ (s.1 = 0 → 1 ≤ s.2.2.1.length) ∧ (getF d.2.2.2.2.2.1 s.2.1).length + s.2.2.1.length ≤ wD d := by
  obtain ⟨h1, _⟩ := good_at h.1 hs
  have h2 := play_room (q := d.2.2.2.2.2.1) (q0 := d.2.2.2.2.2.1) (by rfl) hs
  exact ⟨h1.2.1, fun h => (h1.2.2.1 h).1, by unfold wD; omega⟩
end
section
set_option linter.unusedVariables false
abbrev DAct := Dlaw05Act
def smallA (l : List DAct) : Prop := (∀ a ∈ l, a.2.2.2.2.length ≤ 400) ∧ l.length ≤ 100
instance (l : List DAct) : Decidable (smallA l) := by unfold smallA; infer_instance
structure Fz (n : Int) (d : DDisk) : Prop where
  ok : okD d
  made : d.1 = true
  has : d.2.2.1 = true
  sum : d.2.2.2.2.1 + d.2.2.2.1 = n
  off : d.2.1 = true → d.2.2.2.1 = 0
theorem Fz.burn {n : Int} {d : DDisk} (h : Fz n d) (ho : d.2.1 = false) : Fz n (burnD d).1 ∧ ((burnD d).2 = true ↔ (burnD d).1.2.1 = false) ∧ ((burnD d).2 = true → (burnD d).1.2.1 = false) := by
  have hk := burn_ok h.ok
  obtain ⟨h1, h2, h3, h4, h5⟩ := h
  unfold burnD at hk ⊢
  rw [if_pos h3] at hk ⊢
  split
  · rename_i h0
    rw [if_pos h0] at hk
    exact ⟨⟨hk, h2, h3, h4, fun _ => h0⟩, by simp, by simp⟩
  · rename_i h0
    rw [if_neg h0] at hk
    exact ⟨⟨hk, h2, h3, by dsimp only; omega, fun q => absurd (ho.symm.trans q) (by decide)⟩, by simp [ho], fun _ => ho⟩
theorem Fz.add {n : Int} {d : DDisk} {s : DStep} (h : Fz n d) (hk : okD (addP d s)) : Fz n (addP d s) := ⟨hk, h.made, h.has, h.sum, h.off⟩
/-- What a call leaves: e the answer, d' the disk behind it. -/
structure Fs (n : Int) (d d' : DDisk) (e : Int) : Prop where
  fz : Fz n d'
  off : e = 6 ↔ d'.2.1 = true
  arg : e = 2 → d' = d
theorem Fs.wrong {n : Int} {d : DDisk} (h : Fz n d) (hw : ¬ wrongD d = 0) : Fs n d d (wrongD d) := by
  have hm : ¬ d.1 = false := by rw [h.made]; decide
  unfold wrongD at hw ⊢
  rw [if_neg hm] at hw ⊢
  by_cases ho : d.2.1 = true
  · rw [if_pos ho]; exact ⟨h, by simp [ho], fun q => by cases q⟩
  · rw [if_neg ho] at hw; exact absurd rfl hw
theorem on_of {n : Int} {d : DDisk} (h : Fz n d) (hw : wrongD d = 0) : d.2.1 = false := by
  have hm : ¬ d.1 = false := by rw [h.made]; decide
  unfold wrongD at hw
  rw [if_neg hm] at hw
  by_cases ho : d.2.1 = true
  · rw [if_pos ho] at hw; cases hw
  · simpa using ho
theorem Fs.go {m : Nat} : ∀ {n : Int} {d : DDisk} {f : Int} {b : Bytes}, Fz n d → inF f → d.2.1 = false → Fs n d (writeGo m d f b).1 (writeGo m d f b).2 := by
  induction m with
  | zero => intro n d f b h _ ho; exact ⟨h, by simp [writeGo, ho], fun _ => rfl⟩
  | succ m ih =>
    intro n d f b h hf ho
    obtain ⟨k1, k2, k3⟩ := h.burn ho
    unfold writeGo
    split
    · exact ⟨h, by simp [ho], fun _ => rfl⟩
    · rename_i h0
      split
      · rename_i hb
        have e1 : b.take 64 = b.take (min b.length 64) := by
          by_cases h0 : b.length ≤ 64
          · rw [Nat.min_eq_left h0, List.take_of_length_le h0, List.take_of_length_le (Nat.le_refl _)]
          · rw [Nat.min_eq_right (by omega)]
        have hs := step_ok (m := min b.length 64) h.ok hf (by omega) rfl
        rw [← e1] at hs
        have hq := ih (b := b.drop 64) (k1.add hs) hf (k3 hb)
        refine ⟨hq.fz, hq.off, fun q => ?_⟩
        exfalso
        have : ∀ (m : Nat) (d : DDisk) (b : Bytes), (writeGo m d f b).2 = 0 ∨ (writeGo m d f b).2 = 6 := by
          intro m
          induction m with
          | zero => intro d b; exact .inl rfl
          | succ m ih => intro d b; unfold writeGo; split
                         · exact .inl rfl
                         · split
                           · exact ih _ _
                           · exact .inr rfl
        rcases this m _ (b.drop 64) with e | e <;> rw [e] at q <;> cases q
      · rename_i hb
        refine ⟨k1, ?_, fun q => by cases q⟩
        have : (burnD d).1.2.1 = true := by
          cases hc : (burnD d).1.2.1 with
          | true => rfl
          | false => exact absurd (k2.2 hc) hb
        simp [this]
theorem Fs.cut {n : Int} {d : DDisk} {f k : Int} (h : Fz n d) : Fs n d (dCut d f k).1 (dCut d f k).2 := by
  have hk := cut_ok (f := f) (n := k) h.ok
  unfold dCut at hk ⊢
  split
  · rename_i hw; exact Fs.wrong h hw
  · rename_i hw
    have ho := on_of h (Decidable.not_not.1 hw)
    obtain ⟨k1, k2, k3⟩ := h.burn ho
    split
    · exact ⟨h, by simp [ho], fun _ => rfl⟩
    · rename_i hf
      rw [if_neg hw, if_neg hf] at hk
      split
      · rename_i hb
        rw [if_pos hb] at hk
        exact ⟨k1.add hk, by show (0 : Int) = 6 ↔ (burnD d).1.2.1 = true; simp [k3 hb], fun q => by cases q⟩
      · rename_i hb
        refine ⟨k1, ?_, fun q => by cases q⟩
        have : (burnD d).1.2.1 = true := by
          cases hc : (burnD d).1.2.1 with
          | true => rfl
          | false => exact absurd (k2.2 hc) hb
        simp [this]
/-- A disk that is on, without a fuse. -/
structure Onn (d : DDisk) : Prop where
  ok : okD d
  made : d.1 = true
  on : d.2.1 = false
  has : d.2.2.1 = false
theorem onn_sync {d : DDisk} (h : Onn d) : (dSync d).2 = 0 ∧ Onn (dSync d).1 ∧ dPending (dSync d).1 = 0 := by
  have hk := sync_ok h.ok
  have hw : ¬ ¬ wrongD d = 0 := by unfold wrongD; rw [if_neg (by rw [h.made]; decide), if_neg (by rw [h.on]; decide)]; decide
  have hb : burnD d = ((d.1, d.2.1, d.2.2.1, d.2.2.2.1, d.2.2.2.2.1 + 1, d.2.2.2.2.2), true) := by unfold burnD; rw [if_neg (by rw [h.has]; decide)]
  rw [sync_go hw (by rw [hb]; simp)] at hk ⊢
  rw [hb] at hk ⊢
  refine ⟨rfl, ⟨hk, h.made, h.on, h.has⟩, ?_⟩
  show (if d.1 = false then 0 else (((d.2.2.2.2.2.2.drop d.2.2.2.2.2.2.length).length : Nat) : Int)) = 0
  simp
end
section
set_option linter.unusedVariables false
/-- file by file a front part -/
def leQ (p q : Dur) : Prop := ∀ f : Int, inF f → getF p f <+: getF q f
theorem leQ.refl (q : Dur) : leQ q q := fun f _ => List.prefix_refl _
theorem leQ.trans {p q r : Dur} (h : leQ p q) (h' : leQ q r) : leQ p r := fun f hf => (h f hf).trans (h' f hf)
theorem le_step {q : Dur} {s : DStep} (h : s.1 = 0) (hf : inF s.2.1) : leQ q (stepQ q s) := fun f h2 => by
  rw [stepQ, get_set hf h2]
  split
  · rename_i e; subst e; rw [doneB, if_pos h]; exact List.prefix_append _ _
  · exact List.prefix_refl _
theorem le_play : ∀ {l : List DStep} {q : Dur}, (∀ s ∈ l, s.1 = 0 ∧ inF s.2.1) → leQ q (play q l)
  | [], q, _ => leQ.refl q
  | s :: l, q, h => (le_step (h s (.head _)).1 (h s (.head _)).2).trans (le_play fun s hs => h s (.tail _ hs))
theorem le_torn {q : Dur} {s : DStep} (h : s.1 = 0) (hf : inF s.2.1) (n : Nat) : leQ (stepQ q (s.1, s.2.1, s.2.2.1.take n, s.2.2.2)) (stepQ q s) := fun f h2 => by
  rw [stepQ, stepQ, get_set hf h2, get_set hf h2]
  split
  · rename_i e; subst e
    rw [doneB, doneB, if_pos h, if_pos h]
    exact (List.prefix_append_right_inj _).2 (List.take_prefix _ _)
  · exact List.prefix_refl _
theorem onn_right {d : DDisk} (h : Onn d) : wrongD d = 0 := by unfold wrongD; rw [if_neg (by rw [h.made]; decide), if_neg (by rw [h.on]; decide)]
theorem onn_burn {d : DDisk} (h : Onn d) : burnD d = ((d.1, d.2.1, d.2.2.1, d.2.2.2.1, d.2.2.2.2.1 + 1, d.2.2.2.2.2), true) := by unfold burnD; rw [if_neg (by rw [h.has]; decide)]
theorem set_set {q : Dur} {f : Int} {a b : Bytes} : setF (setF q f a) f b = setF q f b := by
  unfold setF; split
  · rfl
  · split
    · rfl
    · split <;> rfl
theorem set_get {q : Dur} {f : Int} : setF q f (getF q f) = q := by
  unfold setF getF; split
  · rfl
  · split
    · rfl
    · split <;> rfl
/-- a disk behind its start -/
structure Pe (d : DDisk) (A S : Dur) : Prop where
  on : Onn d
  lo : leQ S d.2.2.2.2.2.1
  hi : leQ d.2.2.2.2.2.1 A
  none : d.2.2.2.2.2.2 = []
def begB (b a : Bytes) : Prop := a.length ≤ b.length ∧ b.take a.length = a
instance (b a : Bytes) : Decidable (begB b a) := by unfold begB; infer_instance
end
section
set_option linter.unusedVariables false
abbrev DSection := Int × Int × (List DCommit)
instance decSection : DecidableEq DSection := (@instDecidableEqProd _ _ inferInstance (@instDecidableEqProd _ _ inferInstance inferInstance))
end
section
set_option linter.unusedVariables false
def hB1 (B : Bytes) : Bytes := B.drop (sN B 1048576)
def hB2 (B : Bytes) : Bytes := (hB1 B).drop (sN (hB1 B) 1048576)
abbrev hR1 (B : Bytes) : Int × RS := rNum B 1048576 (0, false)
abbrev hR2 (B : Bytes) : Int × RS := rNum B 1048576 (hR1 B).2
abbrev hR3 (B : Bytes) : Int × RS := rNum B 1048576 (hR2 B).2
end
section
set_option linter.unusedVariables false
abbrev DRaw := Dref05Raw
abbrev DRDisk := Dref05Disk
def stepOf (r : DRaw) : DStep := (if r.2.1 = true then 1 else 0, r.1, r.2.2.2, r.2.2.1)
def rawOf (s : DStep) : DRaw := (s.2.1, decide (s.1 = 1), s.2.2.2, s.2.2.1)
@[simp] theorem raw_step (r : DRaw) : rawOf (stepOf r) = r := by obtain ⟨f, c, t, b⟩ := r; cases c <;> rfl
theorem step_raw {s : DStep} (h : s.1 = 0 ∨ s.1 = 1) : stepOf (rawOf s) = s := by
  obtain ⟨k, f, b, t⟩ := s
  rcases h with h | h <;> (dsimp only at h; subst h; rfl)
@[simp] theorem raws_steps (l : List DRaw) : (l.map stepOf).map rawOf = l := by
  rw [List.map_map]
  conv => rhs; rw [← List.map_id l]
  congr 1; funext r; exact raw_step r
@[simp] theorem comp_rs : rawOf ∘ stepOf = id := funext raw_step
theorem steps_raws : ∀ {l : List DStep} {q : Dur}, goodL q l → (l.map rawOf).map stepOf = l
  | [], _, _ => rfl
  | s :: l, q, h => by rw [List.map_cons, List.map_cons, step_raw h.1.1, steps_raws h.2]
def fromR (r : DRDisk) : DDisk := (r.1, !r.2.2.2.1, r.2.2.2.2.1, if r.2.2.2.2.1 = true then r.2.2.2.2.2.1 else 0, r.2.2.2.2.2.2, r.2.1, r.2.2.1.map stepOf)
def toR (d : DDisk) (x : Int) : DRDisk := (d.1, d.2.2.2.2.2.1, d.2.2.2.2.2.2.map rawOf, !d.2.1, d.2.2.1, if d.2.2.1 = true then d.2.2.2.1 else x, d.2.2.2.2.1)
/-- A disk without a fuse has none left. -/
def nf (d : DDisk) : Prop := d.2.2.1 = false → d.2.2.2.1 = 0
theorem from_to {d : DDisk} {x : Int} (h : okD d) (hn : nf d) : fromR (toR d x) = d := by
  obtain ⟨m, o, f, n, c, q, l⟩ := d
  have h1 := steps_raws h.1
  unfold nf at hn
  dsimp only at h1 hn
  unfold fromR toR
  dsimp only
  rw [h1]
  cases f
  · simp [hn rfl]
  · simp
theorem nf_from (r : DRDisk) : nf (fromR r) := by
  unfold nf fromR
  dsimp only
  intro h; rw [h]; rfl
section
variable {d : DDisk}
theorem nf_fuse {n : Int} (h : nf d) : nf (dFuse d n).1 := by
  unfold dFuse; split
  · exact h
  · split
    · exact h
    · intro q; cases q
theorem nf_start {k t : Int} (h : nf d) : nf (dStart d k t).1 := by
  unfold dStart; split
  · exact h
  · split
    · exact h
    · intro _; rfl
end
end
section
set_option linter.unusedVariables false
section
variable {d : DDisk} {f n : Int} {b : Bytes}
theorem read_held {f : Int} (h : wrongD d = 0) (hf : inF f) : dRead d f = (heldB d.2.2.2.2.2.1 d.2.2.2.2.2.2 f, 0) := by
  unfold dRead; rw [if_neg (by rw [h]; decide), if_neg (Decidable.not_not.2 hf)]
theorem go_err : ∀ (n : Nat) {d : DDisk} {b : Bytes}, (writeGo n d f b).2 = 0 ∨ (writeGo n d f b).2 = 6
  | 0, d, b => .inl rfl
  | n + 1, d, b => by
    unfold writeGo
    split
    · exact .inl rfl
    · split
      · exact go_err n
      · exact .inr rfl
end
end
section
set_option linter.unusedVariables false
/-- what the files hold -/
def curD (d : DDisk) : Dur := play d.2.2.2.2.2.1 d.2.2.2.2.2.2
theorem cur_held {d : DDisk} {f : Int} (h : okD d) (hf : inF f) : heldB d.2.2.2.2.2.1 d.2.2.2.2.2.2 f = getF (curD d) f := (play_held h.1 hf).symm
theorem cur_add (d : DDisk) (s : DStep) : curD (addP d s) = stepQ (curD d) s := by
  show play d.2.2.2.2.2.1 (d.2.2.2.2.2.2 ++ [s]) = _
  rw [play, List.foldl_append]; rfl
theorem cur_burn (d : DDisk) : curD (burnD d).1 = curD d := by unfold curD; rw [(burn_same d).2]
theorem dur_burn (d : DDisk) : (burnD d).1.2.2.2.2.2.1 = d.2.2.2.2.2.1 := by rw [(burn_same d).2]
theorem made_burn (d : DDisk) : (burnD d).1.1 = d.1 := (burn_same d).1
section
variable {d : DDisk} {f n base : Int} {b : Bytes} {s : DSection}
theorem on_read (h : Onn d) (hf : inF f) : dRead d f = (getF (curD d) f, 0) := by rw [read_held (onn_right h) hf, cur_held h.ok hf]
theorem on_durable (h : Onn d) (hf : inF f) : dDurable d f = getF d.2.2.2.2.2.1 f := durable_go (by rw [h.made]; decide) (Decidable.not_not.2 hf)
theorem on_cut (h : Onn d) (hf : inF f) (hn : 0 ≤ n) (hl : n ≤ (getF (curD d) f).length) : (dCut d f n).2 = 0 ∧ Onn (dCut d f n).1 ∧ curD (dCut d f n).1 = setF (curD d) f ((getF (curD d) f).take n.toNat) ∧ (dCut d f n).1.2.2.2.2.2.1 = d.2.2.2.2.2.1 := by
  have hk := cut_ok (f := f) (n := n) h.ok
  have e : dCut d f n = (addP (burnD d).1 (1, f, [], n), 0) := cut_go (by rw [onn_right h]; decide) (Decidable.not_not.2 hf) (by omega) (by rw [cur_held h.ok hf]; omega) (by rw [onn_burn h]; simp)
  rw [e] at hk ⊢
  refine ⟨rfl, ?_, ?_, dur_burn d⟩
  · rw [onn_burn h] at hk ⊢; exact ⟨hk, h.made, h.on, h.has⟩
  · rw [cur_add, cur_burn]; rfl
theorem on_sync (h : Onn d) : (dSync d).2 = 0 ∧ Onn (dSync d).1 ∧ (dSync d).1.2.2.2.2.2.1 = curD d ∧ (dSync d).1.2.2.2.2.2.2 = [] := by
  obtain ⟨h1, h2, h3⟩ := onn_sync h
  have e : dSync d = (settleD (burnD d).1 (burnD d).1.2.2.2.2.2.2.length, 0) := sync_go (by rw [onn_right h]; decide) (by rw [onn_burn h]; simp)
  refine ⟨h1, h2, ?_, ?_⟩ <;> rw [e, onn_burn h]
  · show play d.2.2.2.2.2.1 (d.2.2.2.2.2.2.take d.2.2.2.2.2.2.length) = _
    rw [List.take_length]; rfl
  · show d.2.2.2.2.2.2.drop d.2.2.2.2.2.2.length = []
    rw [List.drop_length]
theorem cur_none (h : d.2.2.2.2.2.2 = []) : curD d = d.2.2.2.2.2.1 := by unfold curD; rw [h]; rfl
end
/-- a disk, on or off, with or without a fuse, to which there were only writes since it was synced -/
structure Pg (d : DDisk) (A S : Dur) : Prop where
  ok : okD d
  made : d.1 = true
  all : ∀ s ∈ d.2.2.2.2.2.2, s.1 = 0 ∧ inF s.2.1
  dur : d.2.2.2.2.2.1 = S
  ends : curD d = A
section
variable {d : DDisk} {A S : Dur} {f n k t : Int} {b : Bytes}
theorem Pg.right (h : Pg d A S) (ho : d.2.1 = false) : wrongD d = 0 := by unfold wrongD; rw [if_neg (by rw [h.made]; decide), if_neg (by rw [ho]; decide)]
theorem pg_none (h : Onn d) (hn : d.2.2.2.2.2.2 = []) : Pg d d.2.2.2.2.2.1 d.2.2.2.2.2.1 := ⟨h.ok, h.made, (by rw [hn]; intro s q; cases q), rfl, cur_none hn⟩
theorem burn_cases (d : DDisk) : ((burnD d).2 = true ∧ (burnD d).1.2.1 = d.2.1) ∨ ((burnD d).2 = false ∧ (burnD d).1.2.1 = true) := by
  unfold burnD
  split
  · split
    · exact .inr ⟨rfl, rfl⟩
    · exact .inl ⟨rfl, rfl⟩
  · exact .inl ⟨rfl, rfl⟩
theorem Pg.burn (h : Pg d A S) : Pg (burnD d).1 A S := ⟨burn_ok h.ok, by rw [made_burn]; exact h.made, by rw [(burn_same d).2]; exact h.all, by rw [dur_burn]; exact h.dur, by rw [cur_burn]; exact h.ends⟩
theorem pg_go (hf : inF f) : ∀ (k : Nat) {d : DDisk} {A : Dur} {b : Bytes}, b.length ≤ k → Pg d A S → d.2.1 = false →
    ∃ p, p <+: b ∧ Pg (writeGo k d f b).1 (setF A f (getF A f ++ p)) S ∧ (((writeGo k d f b).2 = 0 ∧ p = b ∧ (writeGo k d f b).1.2.1 = false) ∨ ((writeGo k d f b).2 = 6 ∧ (writeGo k d f b).1.2.1 = true))
  | 0, d, A, b, hk, h, ho => by
    obtain rfl := List.eq_nil_of_length_eq_zero (Nat.le_zero.1 hk)
    exact ⟨[], List.prefix_refl _, by rw [List.append_nil, set_get]; exact h, .inl ⟨rfl, rfl, ho⟩⟩
  | k + 1, d, A, b, hk, h, ho => by
    unfold writeGo
    split
    · rename_i h0
      obtain rfl := List.eq_nil_of_length_eq_zero h0
      exact ⟨[], List.prefix_refl _, by rw [List.append_nil, set_get]; exact h, .inl ⟨rfl, rfl, ho⟩⟩
    · rename_i h0
      rcases burn_cases d with ⟨hb, hb2⟩ | ⟨hb, hb2⟩
      · rw [if_pos hb]
        have e1 : b.take 64 = b.take (min b.length 64) := by
          by_cases h0 : b.length ≤ 64
          · rw [Nat.min_eq_left h0, List.take_of_length_le h0, List.take_of_length_le (Nat.le_refl _)]
          · rw [Nat.min_eq_right (by omega)]
        have hs := step_ok (m := min b.length 64) h.ok hf (by omega) rfl
        rw [← e1] at hs
        have hb3 := h.burn
        have hA : Pg (addP (burnD d).1 (0, f, b.take 64, 0)) (setF A f (getF A f ++ b.take 64)) S := by
          refine ⟨hs, hb3.made, fun s hs' => ?_, hb3.dur, ?_⟩
          · rcases List.mem_append.1 hs' with q | q
            · exact hb3.all s q
            · simp only [List.mem_cons, List.not_mem_nil, or_false] at q; subst q; exact ⟨rfl, hf⟩
          · rw [cur_add, hb3.ends]; rfl
        obtain ⟨p, k1, k2, k3⟩ := pg_go hf k (b := b.drop 64) (by simp only [List.length_drop]; omega) hA (hb2.trans ho)
        refine ⟨b.take 64 ++ p, ?_, ?_, ?_⟩
        · obtain ⟨q, hq⟩ := k1
          exact ⟨q, by rw [List.append_assoc, hq, List.take_append_drop]⟩
        · rw [get_set hf hf, if_pos rfl, set_set, List.append_assoc] at k2; exact k2
        · rcases k3 with ⟨q1, q2, q3⟩ | q
          · exact .inl ⟨q1, by rw [q2, List.take_append_drop], q3⟩
          · exact .inr q
      · rw [if_neg (by rw [hb]; decide)]
        exact ⟨[], List.nil_prefix, by rw [List.append_nil, set_get]; exact h.burn, .inr ⟨rfl, hb2⟩⟩
theorem pg_write (h : Pg d A S) (ho : d.2.1 = false) (hf : inF f) :
    ∃ p, p <+: b ∧ Pg (dWrite d f b).1 (setF A f (getF A f ++ p)) S ∧ (((dWrite d f b).2 = 0 ∧ p = b ∧ (dWrite d f b).1.2.1 = false) ∨ ((dWrite d f b).2 = 6 ∧ (dWrite d f b).1.2.1 = true)) := by
  rw [write_go (by rw [h.right ho]; decide) (Decidable.not_not.2 hf)]
  exact pg_go hf _ (Nat.le_refl _) h ho
theorem pg_sync (h : Pg d A S) (ho : d.2.1 = false) : ((dSync d).2 = 0 ∧ Pg (dSync d).1 A A ∧ (dSync d).1.2.1 = false ∧ (dSync d).1.2.2.2.2.2.2 = []) ∨ ((dSync d).2 = 6 ∧ Pg (dSync d).1 A S ∧ (dSync d).1.2.1 = true) := by
  have hk := sync_ok h.ok
  have hb := h.burn
  rcases burn_cases d with ⟨b1, b2⟩ | ⟨b1, b2⟩
  · left
    rw [sync_go (by rw [h.right ho]; decide) (by rw [b1]; simp)] at hk ⊢
    have e : (settleD (burnD d).1 (burnD d).1.2.2.2.2.2.2.length).2.2.2.2.2.2 = [] := List.drop_length
    have e2 : (settleD (burnD d).1 (burnD d).1.2.2.2.2.2.2.length).2.2.2.2.2.1 = A := by
      show play (burnD d).1.2.2.2.2.2.1 ((burnD d).1.2.2.2.2.2.2.take (burnD d).1.2.2.2.2.2.2.length) = A
      rw [List.take_length]; exact hb.ends
    exact ⟨rfl, ⟨hk, hb.made, (by rw [e]; intro s q; cases q), e2, by rw [cur_none e]; exact e2⟩, b2.trans ho, e⟩
  · right
    rw [sync_off (by rw [h.right ho]; decide) (by rw [b1]; decide)] at hk ⊢
    exact ⟨rfl, hb, b2⟩
theorem pg_fuse (h : Pg d A S) (ho : d.2.1 = false) (hn : 0 ≤ n) : (dFuse d n).2 = 0 ∧ Pg (dFuse d n).1 A S ∧ (dFuse d n).1.2.1 = false := by
  have hk := fuse_ok (n := n) h.ok
  unfold dFuse at hk ⊢
  rw [if_neg (by rw [h.right ho]; decide), if_neg (by omega)] at hk ⊢
  exact ⟨rfl, ⟨hk, h.made, h.all, h.dur, h.ends⟩, ho⟩
theorem pg_pull (h : Pg d A S) (ho : d.2.1 = false) : (dPull d).2 = 0 ∧ Pg (dPull d).1 A S ∧ (dPull d).1.2.1 = true := by
  have hk := pull_ok h.ok
  unfold dPull at hk ⊢
  rw [if_neg (by rw [h.right ho]; decide)] at hk ⊢
  exact ⟨rfl, ⟨hk, h.made, h.all, h.dur, h.ends⟩, rfl⟩
theorem pg_start (h : Pg d A S) (ho : d.2.1 = true) (hk : 0 ≤ k) (ht : 0 ≤ t) : (dStart d k t).2 = 0 ∧ Pe (dStart d k t).1 A S := by
  have ho' := start_ok (k := k) (t := t) h.ok
  rw [start_go (by rw [h.made]; decide) ho (by omega) (by omega)] at ho' ⊢
  have hA : play S d.2.2.2.2.2.2 = A := by have := h.ends; unfold curD at this; rw [h.dur] at this; exact this
  refine ⟨rfl, ⟨ho', h.made, rfl, rfl⟩, ?_, ?_, rfl⟩
  · show leQ S (tornQ (settleD d (min k d.2.2.2.2.2.2.length).toNat) t)
    generalize (min k d.2.2.2.2.2.2.length).toNat = n
    have h1 : leQ S (play S (d.2.2.2.2.2.2.take n)) := le_play fun s hs => h.all s (List.mem_of_mem_take hs)
    have e1 : (settleD d n).2.2.2.2.2.1 = play S (d.2.2.2.2.2.2.take n) := by show play d.2.2.2.2.2.1 _ = _; rw [h.dur]
    have e2 : (settleD d n).2.2.2.2.2.2 = d.2.2.2.2.2.2.drop n := rfl
    unfold tornQ
    rw [e1, e2]
    split
    · exact h1
    · rename_i s r hl
      have hs := h.all s (List.mem_of_mem_drop (by rw [hl]; exact List.mem_cons_self))
      rw [if_pos hs.1]
      exact h1.trans (le_step hs.1 hs.2)
  · show leQ (tornQ (settleD d (min k d.2.2.2.2.2.2.length).toNat) t) A
    generalize (min k d.2.2.2.2.2.2.length).toNat = n
    have e1 : (settleD d n).2.2.2.2.2.1 = play S (d.2.2.2.2.2.2.take n) := by show play d.2.2.2.2.2.1 _ = _; rw [h.dur]
    have e2 : (settleD d n).2.2.2.2.2.2 = d.2.2.2.2.2.2.drop n := rfl
    have hA2 : A = play (play S (d.2.2.2.2.2.2.take n)) (d.2.2.2.2.2.2.drop n) := by
      rw [← hA]
      conv => lhs; rw [← List.take_append_drop n d.2.2.2.2.2.2, play, List.foldl_append]
      rfl
    have hr : ∀ s ∈ d.2.2.2.2.2.2.drop n, s.1 = 0 ∧ inF s.2.1 := fun s hs => h.all s (List.mem_of_mem_drop hs)
    unfold tornQ
    rw [e1, e2]
    split
    · rename_i hl; rw [hA2, hl]; exact leQ.refl _
    · rename_i s r hl
      rw [hl] at hr hA2
      have hs := hr s (.head _)
      rw [if_pos hs.1, hA2]
      exact (le_torn hs.1 hs.2 _).trans (le_play (q := stepQ _ s) fun s hs => hr s (.tail _ hs))
theorem pe_pf {d : DDisk} {A S : Dur} (h : Pe d A S) : curD d = d.2.2.2.2.2.1 := cur_none h.none
end
end
section
set_option linter.unusedVariables false
def Tw (d : DDisk) (r : DRDisk) : Prop := okD d ∧ fromR r = d
theorem Tw.keep {d d' : DDisk} {r : DRDisk} {x : Int} (h : Tw d r) (hk : okD d') (hn : nf d') : Tw d' (toR d' x) := ⟨hk, from_to hk hn⟩
theorem Tw.nf {d : DDisk} {r : DRDisk} (h : Tw d r) : nf d := by rw [← h.2]; exact nf_from r
section
variable {d : DDisk} {r : DRDisk} (h : Tw d r)
include h
theorem Tw.fuse {n : Int} : Tw (dFuse d n).1 (toR (dFuse (fromR r) n).1 r.2.2.2.2.2.1) ∧ (dFuse (fromR r) n).2 = (dFuse d n).2 := by rw [h.2]; exact ⟨h.keep (fuse_ok h.1) (nf_fuse h.nf), rfl⟩
theorem Tw.start {k t : Int} : Tw (dStart d k t).1 (toR (dStart (fromR r) k t).1 r.2.2.2.2.2.1) ∧ (dStart (fromR r) k t).2 = (dStart d k t).2 := by rw [h.2]; exact ⟨h.keep (start_ok h.1) (nf_start h.nf), rfl⟩
end
end
section
set_option linter.unusedVariables false
def smallS (s : DSection) : Prop := (∀ c ∈ s.2.2, c.2.2.length ≤ 40) ∧ s.2.2.length ≤ 40
instance (s : DSection) : Decidable (smallS s) := by unfold smallS; infer_instance
end
section
set_option linter.unusedVariables false
def endsFrom : Nat → List DCommit → List Int
  | _, [] => []
  | a, c :: l => ((a + (cFrame c).length : Nat) : Int) :: endsFrom (a + (cFrame c).length) l
def endsC (l : List DCommit) : List Int := endsFrom 0 l
theorem endsFrom_app : ∀ {l r : List DCommit} {a : Nat}, endsFrom a (l ++ r) = endsFrom a l ++ endsFrom (a + (cFrames l).length) r
  | [], r, a => rfl
  | c :: l, r, a => by
    show _ :: endsFrom _ (l ++ r) = _ :: (_ ++ _)
    rw [endsFrom_app (l := l), cFrames_cons, List.length_append, Nat.add_assoc]
theorem endsFrom_len : ∀ {l : List DCommit} {a : Nat}, (endsFrom a l).length = l.length
  | [], _ => rfl
  | c :: l, a => by show _ + 1 = _ + 1; rw [endsFrom_len (l := l)]
theorem endsC_len (l : List DCommit) : (endsC l).length = l.length := endsFrom_len
theorem cFrames_one (c : DCommit) : cFrames [c] = cFrame c := by simp [cFrames]
theorem endsC_snoc (l : List DCommit) (c : DCommit) : endsC (l ++ [c]) = endsC l ++ [((cFrames l).length : Int) + ((cFrame c).length : Int)] := by
  unfold endsC; rw [endsFrom_app]
  show _ ++ [_] = _
  rw [Nat.zero_add, Int.natCast_add]
/-- the last of them, or 0. -/
def lenW (l : List Int) : Int := match l.getLast? with
  | some x => x
  | none => 0
theorem lenW_at {l : List Int} {k : Nat} {x : Int} (hx : l[k]? = some x) (h0 : k + 1 = l.length) : lenW l = x := by
  unfold lenW; rw [List.getLast?_eq_getElem?, show l.length - 1 = k by omega, hx]
theorem lenW_nil {l : List Int} (h0 : l.length = 0) : lenW l = 0 := by rw [List.eq_nil_of_length_eq_zero h0]; rfl
theorem lenW_ends (l : List DCommit) : lenW (endsC l) = ((cFrames l).length : Int) := by
  rcases List.eq_nil_or_concat l with rfl | ⟨l, c, rfl⟩
  · rfl
  · rw [List.concat_eq_append, endsC_snoc, cFrames_app, cFrames_one, List.length_append, Int.natCast_add]
    unfold lenW; rw [List.getLast?_append]; rfl
def logOk (ep n : Int) (B : Bytes) : Prop := (fRead B).2.2 = 0 ∧ (cDecode (fRead B).1).2 = 0 ∧ (cFollows ep n [(cDecode (fRead B).1).1]).1 = 0
instance (ep n : Int) (B : Bytes) : Decidable (logOk ep n B) := by unfold logOk; infer_instance
def logGo : Nat → Bytes → List DCommit → Int → List DCommit × Int
  | 0, _, l, a => (l, a)
  | k + 1, B, l, a => if logOk (lastOr 0 l) l.length (B.drop a.toNat) then logGo k B (l ++ [(cDecode (fRead (B.drop a.toNat)).1).1]) (a + (fRead (B.drop a.toNat)).2.1) else (l, a)
def logF (B : Bytes) : List DCommit × Int := logGo B.length B [] 0
section
variable {B : Bytes} {k : Nat} {l : List DCommit} {a : Int} {p : List DCommit × Int}
theorem log_end (hp : p = logGo k B l a) (h : ¬ logOk (lastOr 0 l) l.length (B.drop a.toNat)) : p = (l, a) := by
  rw [hp]; cases k with
  | zero => rfl
  | succ k => exact if_neg h
theorem ok_pos {ep n : Int} (h : logOk ep n B) : 1 ≤ (fRead B).2.1 ∧ (fRead B).2.1 ≤ B.length := by
  have := fRead_bounds B
  exact ⟨this.2.2.2.2.1 h.1, this.2.1⟩
theorem log_next (hp : p = logGo k B l a) (ha : 0 ≤ a) (hk : (B.length : Int) - a ≤ k) (h : logOk (lastOr 0 l) l.length (B.drop a.toNat)) :
    p = logGo (k - 1) B (l ++ [(cDecode (fRead (B.drop a.toNat)).1).1]) (a + (fRead (B.drop a.toNat)).2.1) := by
  rw [hp]; cases k with
  | zero =>
    exfalso
    have := ok_pos h
    simp only [List.length_drop] at this
    omega
  | succ k => rw [logGo, if_pos h]; rfl
theorem follows_snoc {c : DCommit} (h : (cFollows 0 0 l).1 = 0) (hc : (cFollows (lastOr 0 l) l.length [c]).1 = 0) : (cFollows 0 0 (l ++ [c])).1 = 0 :=
  follows_app (j := 0) h (by rw [Int.zero_add]; exact hc)
theorem logGo_spec : ∀ {k : Nat} {l : List DCommit} {a : Int}, (cFollows 0 0 l).1 = 0 → a = ((cFrames l).length : Int) → cFrames l <+: B → B.length - (cFrames l).length ≤ k →
    (cFollows 0 0 (logGo k B l a).1).1 = 0 ∧ (logGo k B l a).2 = ((cFrames (logGo k B l a).1).length : Int) ∧ cFrames (logGo k B l a).1 <+: B ∧ ¬ logOk (lastOr 0 (logGo k B l a).1) (logGo k B l a).1.length (B.drop (cFrames (logGo k B l a).1).length)
  | 0, l, a, h, ha, hb, hk => by
    refine ⟨h, ha, hb, fun q => ?_⟩
    have := ok_pos q
    simp only [List.length_drop, logGo] at this
    omega
  | k + 1, l, a, h, ha, hb, hk => by
    unfold logGo
    split
    · rename_i h2
      subst ha
      rw [Int.toNat_natCast] at h2 ⊢
      obtain ⟨h3, h4, h5⟩ := frame_back h2.1 h2.2.1
      have hl := ok_pos h2
      have e : cFrames (l ++ [(cDecode (fRead (B.drop (cFrames l).length)).1).1]) = cFrames l ++ cFrame (cDecode (fRead (B.drop (cFrames l).length)).1).1 := by rw [cFrames_app, cFrames_one]
      refine logGo_spec (follows_snoc h h2.2.2) ?_ ?_ ?_
      · rw [e, h5, List.length_append, Int.natCast_add]
      · rw [e]
        obtain ⟨s, hs⟩ := hb
        rw [← hs, List.drop_left] at h4 ⊢
        exact ⟨s.drop (fRead s).2.1.toNat, by rw [List.append_assoc, ← h4]⟩
      · rw [e, List.length_append]; omega
    · rename_i h2
      refine ⟨h, ha, hb, ?_⟩
      rw [ha, Int.toNat_natCast] at h2; exact h2
theorem log_spec (B : Bytes) : (cFollows 0 0 (logF B).1).1 = 0 ∧ (logF B).2 = ((cFrames (logF B).1).length : Int) ∧ cFrames (logF B).1 <+: B ∧ ¬ logOk (lastOr 0 (logF B).1) (logF B).1.length (B.drop (cFrames (logF B).1).length) :=
  logGo_spec rfl rfl (List.nil_prefix) (Nat.sub_le _ _)
theorem log_bounds (B : Bytes) : 0 ≤ (logF B).2 ∧ (logF B).2 ≤ B.length ∧ (logF B).1.length ≤ 1048576 ∧ (cFollows 0 0 (logF B).1).1 = 0 ∧ (logF B).2 = lenW (endsC (logF B).1) ∧ (endsC (logF B).1).length = (logF B).1.length := by
  obtain ⟨h1, h2, h3, _⟩ := log_spec B
  have h4 := h3.length_le
  have h5 := follows_len h1 (by omega)
  exact ⟨by omega, by omega, by omega, h1, by rw [lenW_ends, h2], endsC_len _⟩
end
theorem next_ok {l : List DCommit} {n : Nat} {B : Bytes} (h : (cFollows 0 0 l).1 = 0) (hn : n < l.length) (hp : cFrames l <+: B) : logOk (lastOr 0 (l.take n)) n (B.drop (cFrames (l.take n)).length) := by
  obtain ⟨s, rfl⟩ := hp
  obtain ⟨x, hx⟩ : ∃ x, l[n]? = some x := ⟨_, List.getElem?_eq_getElem hn⟩
  have e : l = l.take n ++ x :: l.drop (n + 1) := drop_split hx
  have hc := cFollowsAt_ok h x (List.mem_of_getElem? hx)
  have hd : (cFrames l ++ s).drop (cFrames (l.take n)).length = cFrame x ++ (cFrames (l.drop (n + 1)) ++ s) := by
    conv => lhs; arg 2; rw [e, cFrames_app, cFrames_cons, List.append_assoc, List.append_assoc]
    rw [List.drop_left]
  obtain ⟨h1, h2⟩ := frame_there hc (cFrames (l.drop (n + 1)) ++ s)
  rw [hd]
  refine ⟨by rw [h1], by rw [h1]; dsimp only; rw [h2], ?_⟩
  rw [h1]; dsimp only; rw [h2]; dsimp only
  have h' := h
  rw [e] at h'
  have h3 := follows_app_right 0 h'
  rw [Int.zero_add, List.length_take, Nat.min_eq_left (by omega)] at h3
  obtain ⟨a1, a2, a3, _⟩ := follows_cons h3
  exact follows_mk a1 a2 a3 rfl
theorem frames_inj : ∀ {m l : List DCommit} {B : Bytes}, (∀ c ∈ m, cCheck c = 0) → (∀ c ∈ l, cCheck c = 0) → cFrames m <+: B → cFrames l <+: B → m.length ≤ l.length → m <+: l
  | [], _, _, _, _, _, _, _ => List.nil_prefix
  | x :: m, [], _, _, _, _, _, h => by simp at h
  | x :: m, y :: l, B, hm, hl, ⟨s, hs⟩, ⟨t, ht⟩, hn => by
    have e1 := frame_there (hm x (.head _)) (cFrames m ++ s)
    have e2 := frame_there (hl y (.head _)) (cFrames l ++ t)
    rw [← List.append_assoc, ← cFrames_cons, hs] at e1
    rw [← List.append_assoc, ← cFrames_cons, ht] at e2
    have e3 := congrArg Prod.fst (e1.1.symm.trans e2.1)
    dsimp only at e3
    have e4 := congrArg Prod.fst (e1.2.symm.trans ((congrArg cDecode e3).trans e2.2))
    dsimp only at e4
    subst e4
    rw [cFrames_cons, List.append_assoc] at hs ht
    have e5 := List.append_cancel_left (hs.trans ht.symm)
    exact List.prefix_cons_inj x |>.2 (frames_inj (B := cFrames m ++ s) (fun c hc => hm c (.tail _ hc)) (fun c hc => hl c (.tail _ hc)) ⟨s, rfl⟩ ⟨t, e5.symm⟩ (by simpa using hn))
theorem prefix_take {α : Type} {m l : List α} (h : m <+: l) : m = l.take m.length := by
  obtain ⟨s, rfl⟩ := h; simp
/-- The log of bytes is the one log with which they begin, and which doesn't go on. -/
theorem log_uniq {B : Bytes} {l : List DCommit} (h : (cFollows 0 0 l).1 = 0) (hp : cFrames l <+: B) (hx : ¬ logOk (lastOr 0 l) l.length (B.drop (cFrames l).length)) : logF B = (l, ((cFrames l).length : Int)) := by
  obtain ⟨h1, h2, h3, h4⟩ := log_spec B
  have : (logF B).1 = l := by
    have c1 := cFollowsAt_ok h; have c2 := cFollowsAt_ok h1
    rcases Nat.lt_trichotomy (logF B).1.length l.length with q | q | q
    · exfalso
      have e := prefix_take (frames_inj c2 c1 h3 hp (by omega))
      have := next_ok h q hp
      rw [← e] at this
      exact h4 this
    · have e := prefix_take (frames_inj c2 c1 h3 hp (by omega))
      rw [e, q, List.take_length]
    · exfalso
      have e := prefix_take (frames_inj c1 c2 hp h3 (by omega))
      have := next_ok h1 q h3
      rw [← e] at this
      exact hx this
  exact Prod.ext this (by rw [h2, this])
theorem not_ok_nil (ep n : Int) : ¬ logOk ep n [] := fun h => by have := ok_pos h; simp only [List.length_nil] at this; omega
theorem log_whole {l : List DCommit} (h : (cFollows 0 0 l).1 = 0) : logF (cFrames l) = (l, ((cFrames l).length : Int)) :=
  log_uniq h (List.prefix_refl _) (by rw [List.drop_length]; exact not_ok_nil _ _)
theorem frames_ge : ∀ {s : List DCommit}, (∀ c ∈ s, cCheck c = 0) → s.length ≤ (cFrames s).length
  | [], _ => Nat.zero_le _
  | c :: s, h => by
    have h1 := (cFrame_len (h c (.head _))).2
    have h2 := frames_ge (s := s) fun x hx => h x (.tail _ hx)
    rw [cFrames_cons, List.length_append, List.length_cons]; omega
/-- Of a front part of a log's bytes: a front part of the log, as long as may be. -/
theorem log_front {B : Bytes} {l : List DCommit} (h : (cFollows 0 0 l).1 = 0) (hp : B <+: cFrames l) : (logF B).1 <+: l ∧ ∀ m, m <+: l → cFrames m <+: B → m <+: (logF B).1 := by
  obtain ⟨h1, h2, h3, h4⟩ := log_spec B
  have c1 := cFollowsAt_ok h; have c2 := cFollowsAt_ok h1
  refine ⟨?_, fun m hm hB => ?_⟩
  · rcases Nat.le_total (logF B).1.length l.length with q | q
    · exact frames_inj c2 c1 (h3.trans hp) (List.prefix_refl _) q
    · obtain ⟨s, e⟩ := frames_inj c1 c2 (List.prefix_refl _) (h3.trans hp) q
      have hl := (h3.trans hp).length_le
      have hs := frames_ge (s := s) fun c hc => c2 c (by rw [← e]; exact List.mem_append_right _ hc)
      rw [← e, cFrames_app, List.length_append] at hl
      rw [← e, List.eq_nil_of_length_eq_zero (show s.length = 0 by omega), List.append_nil]
      exact List.prefix_refl _
  · obtain ⟨t, rfl⟩ := hm
    have hm' := follows_app_left h
    rcases Nat.lt_or_ge (logF B).1.length m.length with q | q
    · exfalso
      have e := prefix_take (frames_inj c2 (cFollowsAt_ok hm') h3 hB (by omega))
      have := next_ok hm' q hB
      rw [← e] at this
      exact h4 this
    · exact frames_inj (cFollowsAt_ok hm') c2 hB h3 q
end
section
set_option linter.unusedVariables false
/-- so far l has been read, up to a. -/
def logAt (B : Bytes) (l : List DCommit) (a : Int) : Prop := a = ((cFrames l).length : Int) ∧ a ≤ B.length ∧ (cFollows 0 0 l).1 = 0 ∧ ∃ n : Nat, (B.length : Int) - a ≤ n ∧ logF B = logGo n B l a
section
variable {B : Bytes} {l : List DCommit} {a : Int}
theorem logAt_0 (B : Bytes) : logAt B [] 0 := ⟨rfl, Int.natCast_nonneg _, rfl, B.length, by omega, rfl⟩
theorem logAt_end (h : logAt B l a) (hn : ¬ logOk (lastOr 0 l) l.length (B.drop a.toNat)) : logF B = (l, a) := by
  obtain ⟨_, _, _, n, _, h2⟩ := h
  exact log_end h2 hn
theorem log_read (h : logOk (lastOr 0 l) l.length B) : (fRead B).2.1 = ((cFrame (cDecode (fRead B).1).1).length : Int) := (frame_back h.1 h.2.1).2.2
theorem logAt_next (h : logAt B l a) (ho : logOk (lastOr 0 l) l.length (B.drop a.toNat)) : logAt B (l ++ [(cDecode (fRead (B.drop a.toNat)).1).1]) (a + (fRead (B.drop a.toNat)).2.1) := by
  obtain ⟨h0, h1, h3, n, hn, h2⟩ := h
  have hp := ok_pos ho
  rw [List.length_drop] at hp
  refine ⟨?_, by omega, follows_snoc h3 ho.2.2, n - 1, by omega, log_next h2 (by omega) hn ho⟩
  rw [cFrames_app, cFrames_one, List.length_append, Int.natCast_add, ← h0, log_read ho]
theorem ends_next {es : List Int} (he : es = endsC l) (h : logAt B l a) (ho : logOk (lastOr 0 l) l.length (B.drop a.toNat)) : es ++ [a + (fRead (B.drop a.toNat)).2.1] = endsC (l ++ [(cDecode (fRead (B.drop a.toNat)).1).1]) := by
  rw [endsC_snoc, he, log_read ho, h.1]
theorem lastOr_snoc {e : Int} {c : DCommit} : lastOr e (l ++ [c]) = c.1 := by unfold lastOr; rw [List.getLast?_append]; rfl
theorem logAt_len (h : logAt B l a) : (l.length : Int) ≤ 1048576 := by
  have := follows_len h.2.2.1 (by omega)
  omega
theorem lastOr_range {l : List DCommit} (h : (cFollows 0 0 l).1 = 0) : 0 ≤ lastOr 0 l ∧ lastOr 0 l ≤ 1048576 := by
  unfold lastOr
  cases e : l.getLast? with
  | none => exact ⟨Int.le_refl _, by decide⟩
  | some c =>
    have := cCheck_ok (cFollowsAt_ok h c (List.mem_of_getLast? e))
    exact ⟨by dsimp only; omega, by dsimp only; omega⟩
/-- its fields, where a commit goes on -/
theorem ok_of (h1 : (fRead B).2.2 = 0) (h2 : ¬ ¬ (cDecode (fRead B).1).2 = 0) {ep : Int} (he : ep = lastOr 0 l) (h3 : ¬ ¬ (cFollows ep l.length [(cDecode (fRead B).1).1]).1 = 0) : logOk (lastOr 0 l) l.length B := ⟨h1, Decidable.not_not.1 h2, by rw [← he]; exact Decidable.not_not.1 h3⟩
theorem no_of1 (h2 : ¬ (cDecode (fRead B).1).2 = 0) : ¬ logOk (lastOr 0 l) l.length B := fun h => h2 h.2.1
theorem no_of2 {ep : Int} (he : ep = lastOr 0 l) (h3 : ¬ (cFollows ep l.length [(cDecode (fRead B).1).1]).1 = 0) : ¬ logOk (lastOr 0 l) l.length B := fun h => h3 (by rw [he]; exact h.2.2)
theorem no_of0 (h2 : ¬ (fRead B).2.2 = 0) : ¬ logOk (lastOr 0 l) l.length B := fun h => h2 h.1
end
end
section
set_option linter.unusedVariables false
set_option linter.unusedSimpArgs false
set_option maxRecDepth 4000
theorem fnOk68 : fnOk Try.prog 68 = true := by kernel_rfl
theorem fnOk69 : fnOk Try.prog 69 = true := by kernel_rfl
theorem fnOk70 : fnOk Try.prog 70 = true := by kernel_rfl
theorem tfk69_0 : ∀ F : Array Field, Try.prog.underlying 69 = some (.struct F) → ∀ f, F[0]? = some f → tk Try.prog f.type = some none := tfk_of (by kernel_rfl)
theorem tk56 : tk Try.prog 56 = some none := by kernel_rfl
theorem tsl56 : tsl Try.prog 56 = some (3, 1, 8) := by kernel_rfl
theorem tz3 : tz Try.prog 3 = some [.int .i64 0] := by kernel_rfl
theorem tz56 : tz Try.prog 56 = some [.slice none 0 0] := by kernel_rfl
theorem tk25 : tk Try.prog 25 = some none := by kernel_rfl
theorem tz25 : tz Try.prog 25 = some [.slice none 0 0] := by kernel_rfl
def eachE (B : Bytes) (a : Int) (args : List Value) (mr : Mem) : Prop := 0 ≤ a ∧ a ≤ B.length ∧ (fRead (B.drop a.toNat)).2.2 = 0 ∧ ∃ A c, args = [.int .i64 a, .slice A (fRead (B.drop a.toNat)).1.length c] ∧ Ow (.sl .byte) mr [.slice A (fRead (B.drop a.toNat)).1.length c] (fRead (B.drop a.toNat)).1
def eachN (B : Bytes) (a : Int) : Int := a + (fRead (B.drop a.toNat)).2.1
def eachD (B : Bytes) (a : Int) : Prop := 0 ≤ a ∧ a ≤ B.length ∧ ¬ (fRead (B.drop a.toNat)).2.2 = 0
theorem each_at {B : Bytes} {a : Int} (h : 0 ≤ a) (h2 : a ≤ B.length) (h3 : (fRead (B.drop a.toNat)).2.2 = 0) : a + 1 ≤ eachN B a ∧ eachN B a ≤ B.length := by
  have := fRead_bounds (B.drop a.toNat)
  rw [List.length_drop] at this
  have h4 := this.2.2.2.2.1 h3
  unfold eachN; omega
theorem each1_ok {B : Bytes} {gc : Nat} {A : Option Addr} {c : Nat} {mB : Mem} (hB : Ow (.sl .byte) mB [.slice A B.length c] B) (hd : mdj (mone gc (.cells [(.slice A B.length c : Value)].toArray 22 (0, 0))) mB) (hlen : B.length ≤ 9000000000000000000) :
    IterOk Try.prog 85 [.pointer (some ⟨gc, 0, none⟩)] (mun (mone gc (.cells [(.slice A B.length c : Value)].toArray 22 (0, 0))) mB) (eachE B) (eachN B) 0 (eachD B) := by
  intro G M I X l W g0 h0 hm hdj hy
  obtain ⟨lB, kB⟩ := Ow.rm hB
  have d1 : mdj (M g0) (mone gc (.cells [(.slice A B.length c : Value)].toArray 22 (0, 0))) := hdj.mono (mle_refl _) (mle_un_left _ _)
  have d2 : mdj (M g0) mB := hdj.mono (mle_refl _) (mle_un_right hd)
  refine CallR.ofX (n := 27) Try.func85 rfl rfl rfl hm ?_
  refine VX.parts 1 [1, 2, 3] (l := [M g0, mone gc (.cells [(.slice A B.length c : Value)].toArray 22 (0, 0)), mB]) rfl ⟨fun x hx => ?_, List.pairwise_cons.2 ⟨fun x hx => ?_, List.pairwise_cons.2 ⟨fun x hx => ?_, List.pairwise_singleton _ _⟩⟩⟩ ?_
  · simp only [List.mem_cons, List.not_mem_nil, or_false] at hx
    rcases hx with rfl | rfl | rfl
    · exact mle_un_left _ _
    · exact (mle_un_left _ _).trans (mle_un_right hdj)
    · exact (mle_un_right hd).trans (mle_un_right hdj)
  · simp only [List.mem_cons, List.not_mem_nil, or_false] at hx
    rcases hx with rfl | rfl
    · exact d1
    · exact d2
  · simp only [List.mem_cons, List.not_mem_nil, or_false] at hx
    subst hx; exact hd
  refine VX.rs ?_
  refine VO.as ?_
  refine VO.k3 0 1 3 ?_
  refine VX.block ?_
  refine VX.loop (G := Int × G) (fun s => [(0, .func (.yield l) #[] #[]), (1, .pointer (some ⟨gc, 0, none⟩)), (3, .int .i64 s.1)]) (fun s => [(1, M s.2), (2, mone gc (.cells [(.slice A B.length c : Value)].toArray 22 (0, 0))), (3, mB), (0, mout (wm W) (mun (M g0) (mun (mone gc (.cells [(.slice A B.length c : Value)].toArray 22 (0, 0))) mB)))]) (fun s => I s.1 s.2 ∧ 0 ≤ s.1 ∧ s.1 ≤ B.length) (fun s => (B.length - s.1).toNat) (0, g0) ⟨h0, Int.le_refl _, Int.natCast_nonneg _⟩ ⟨⟨rfl, rfl, rfl, trivial⟩, fun _ h => h.sub [1, 2, 3, 0]⟩ ?_
  rintro ⟨a, g⟩ ⟨hI, ha, hal⟩
  dsimp only at hI ha hal
  show VX _ _ _ _ _ _ _ [(0, .func (.yield l) #[] #[]), (1, .pointer (some ⟨gc, 0, none⟩)), (3, .int .i64 a)] [(1, M g), (2, mone gc (.cells [(.slice A B.length c : Value)].toArray 22 (0, 0))), (3, mB), (0, mout (wm W) (mun (M g0) (mun (mone gc (.cells [(.slice A B.length c : Value)].toArray 22 (0, 0))) mB)))]
  refine VX.block ?_
  refine VX.rs ?_
  refine VO.y rfl (.ld1 2 rfl (by kernel_rfl) rfl (cellsAt_one rfl rfl)) ?_
  refine VO.mv ?_
  obtain ⟨As, hAs, hs⟩ := (hB.rd (mle_refl _)).drop 1 a.toNat rfl (by omega)
  refine VO.y rfl (.slLI a.toNat As rfl rfl tsl22 (by omega) hAs (by omega)) ?_
  refine VO.callN 10 rfl (by kernel_rfl) rfl (fun W' hW => fRead_ok W' (Rd.mono hs (hW.at (i := 3) rfl))) (fun v3 m3 hv3 => ?_)
  obtain ⟨s3_0, rfl, f3_0⟩ := hv3
  have hfb := fRead_bounds (B.drop a.toNat)
  obtain ⟨A3, c3, eq3, l3, k3⟩ := f3_0.slice
  subst eq3
  refine VO.mv ?_
  refine VO.y rfl (.ext rfl rfl) ?_
  refine VO.y rfl (.ext rfl rfl) ?_
  refine VO.y rfl (.ext rfl rfl) ?_
  refine VO.as ?_
  refine VO.as ?_
  refine VO.as ?_
  refine VO.k6 0 1 3 4 5 6 ?_
  refine VX.seq ?_
  refine VX.seq ?_
  refine VX.regL _ (hix := ?_) (VL.pre (r := [6, 7, 8]) 6 (by kernel_rfl) ?_)
  · kernel_rfl
  refine VO.mv ?_
  refine VO.y rfl (.neq rfl rfl) ?_
  refine VO.mv ?_
  refine VO.dec (t := 17) rfl (fun hc => ?_) (fun hc => ?_)
  · refine VO.gN ?_
    refine VO.gN ?_
    refine VO.gN ?_
    refine VO.nil ?_
    refine VL.skip rfl rfl ⟨_, rfl, rfl⟩ ?_
    refine VL.post 7 rfl (by kernel_rfl) ?_
    refine VO.gN ?_
    refine VO.y rfl (.pT rfl rfl) ?_
    refine VO.k4 0 1 3 23 ?_
    refine outN (VX.condT rfl ?_)
    refine VX.ret ?_
    refine outR (outBR (outR (outBR ?_)))
    refine ⟨_, _, res_run (rs := []) rfl .nil, fun W_ hI_ => out_of (l := [M g]) hI_ [1] rfl rfl (mle_refl _) (fun hS_ => ⟨g, mun_nil _, .inr ⟨a, hI, ha, hal, hc⟩⟩)⟩
  · have h5 : (fRead (B.drop a.toNat)).2.2 = 0 := Decidable.not_not.1 hc
    have hat := each_at ha hal h5
    refine VO.gy rfl ⟨_, rfl, rfl⟩ (.mv rfl) ?_
    refine VO.gy rfl ⟨_, rfl, rfl⟩ (.mv rfl) ?_
    refine VO.gy rfl ⟨_, rfl, rfl⟩ (.mv rfl) ?_
    refine VO.nil ?_
    refine VL.yield2 1 10 rfl rfl (.inr ⟨_, _, rfl, _, rfl, rfl⟩) rfl rfl rfl rfl (fun W' hW => hy a g _ m3 W' hI ⟨ha, hal, h5, _, _, rfl, f3_0⟩ (hW.sub [0, 1, 10]).three) (fun v m' hv => ?_)
    obtain ⟨g', rfl, hv⟩ := hv
    rcases hv with ⟨rfl, hI'⟩ | ⟨rfl, hX⟩
    · refine VL.post 7 rfl (by kernel_rfl) ?_
      refine VO.gy rfl ⟨_, rfl, rfl⟩ (.not rfl) ?_
      refine VO.y rfl (.pF rfl rfl) ?_
      refine VO.k5 0 1 3 5 23 ?_
      refine outN (VX.condF rfl ?_)
      refine VX.skip (outN ?_)
      refine VX.reg ?_
      refine VO.mv ?_
      refine VO.mv ?_
      refine VO.y rfl (.add (c := eachN B a) rfl rfl rfl ⟨by omega, by omega⟩) ?_
      refine VO.as ?_
      refine VO.nil ?_
      refine outBN (outN ⟨rfl, (eachN B a, g'), ⟨hI', by dsimp only; omega, by dsimp only; omega⟩, by dsimp only; omega, ⟨⟨rfl, rfl, rfl, trivial⟩, fun _ h => h.sub [1, 2, 3, 0]⟩⟩)
    · refine VL.post 7 rfl (by kernel_rfl) ?_
      refine VO.gy rfl ⟨_, rfl, rfl⟩ (.not rfl) ?_
      refine VO.y rfl (.pF rfl rfl) ?_
      refine VO.k4 0 1 3 23 ?_
      refine outN (VX.condT rfl ?_)
      refine VX.ret ?_
      refine outR (outBR (outR (outBR ?_)))
      refine ⟨_, _, res_run (rs := []) rfl .nil, fun W_ hI_ => out_of (l := [M g']) hI_ [1] rfl rfl (mle_refl _) (fun hS_ => ⟨g', mun_nil _, .inl hX⟩)⟩
theorem each_ok (W : World) {v0 : Value} {d0 : List UInt8} (h0 : Rd (.sl .byte) (wm W) [v0] d0) (e0 : d0.length ≤ 140737488355000) : CallR Try.prog 68 [v0] W mnil (fun v m' => ∃ caps, v = .func (.func 85) #[] (List.toArray caps) ∧ IterOk Try.prog 85 caps m' (eachE d0) (eachN d0) 0 (eachD d0)) := by
  obtain ⟨A0, c0, rfl, l0, k0⟩ := h0.slice
  refine CallR.ofA (n := 7) Try.func68 rfl rfl rfl ?_
  refine VC.rs ?_
  refine VO.as ?_
  refine VO.k2 0 2 ?_
  refine VC.rs ?_
  refine VO.mv ?_
  refine VO.callN 103 rfl (by kernel_rfl) rfl (fun W hW => cloneB_ok W (Rd.mono h0 (hW.at (i := 0) rfl)) (by omega)) (fun v3 m3 hv3 => ?_)
  obtain ⟨_, rfl, hv3⟩ := hv3
  obtain ⟨A3, c3, eq3, l3, k3⟩ := hv3.slice
  subst eq3
  refine VO.alloc 102 rfl (show tz Try.prog 22 = some [.slice none 0 0] by kernel_rfl) (fun g1 => ?_)
  refine VO.store (k := 1) (c' := [(.slice A3 d0.length c3 : Value)]) 102 rfl rfl (.inr ⟨(by kernel_rfl), rfl⟩) rfl rfl rfl rfl rfl ?_
  refine VO.k3 0 2 3 ?_
  refine VC.rs ?_
  refine VO.y rfl (.mkf rfl) ?_
  refine VO.as ?_
  refine VO.k1 2 ?_
  refine VC.ret ?_
  refine ⟨_, _, res_run (rs := [.tmp 2]) rfl (.tmp rfl .nil), fun W_ hI => out_of (l := [mone g1 (.cells [(.slice A3 d0.length c3 : Value)].toArray 22 (0, 0)), m3]) hI [102, 103] rfl rfl (mle_refl _) (fun hS_ => ⟨[.pointer (some ⟨g1, 0, none⟩)], rfl, ?_⟩)⟩
  show IterOk _ _ _ (mun _ (mun m3 mnil)) _ _ _ _
  rw [mun_nil]
  exact each1_ok hv3 ((List.pairwise_cons.1 hS_.2).1 _ (.head _)) (by omega)
set_option maxHeartbeats 4000000 in
theorem wScanE_ok (W : World) {v0 : Value} {d0 : List UInt8} (h0 : Rd (.sl .byte) (wm W) [v0] d0) (e0 : d0.length ≤ 140737488355000) : CallR Try.prog 40 [v0] W (mnil) (fun v m' => ∃ (s0 : Value), ∃ (s1 : Value), ∃ (p0 : Mem), ∃ (p1 : Mem), v = .tuple #[s0, s1] ∧ Seps m' [p0, p1] ∧ Ow (.sl TCommit) p0 [s0] ((logF d0).1) ∧ Ow (.sl (.int .i64)) p1 [s1] (endsC (logF d0).1)) := by
  obtain ⟨A0, c0, rfl, l0, k0⟩ := h0.slice
  simp only [maxLen] at k0
  refine CallR.ofXA (n := 57) Try.func40 rfl rfl rfl ?_
  refine VX.rs ?_
  refine VO.box (cs := [Value.slice A0 (d0.length) (c0)]) 102 rfl rfl rfl (fun g1 => ?_)
  refine VO.as ?_
  refine VO.as ?_
  refine VO.k4 0 1 2 3 ?_
  refine VX.rs ?_
  refine VO.alloc 104 rfl tz25 (fun g3 => ?_)
  refine VO.k5 0 1 2 3 4 ?_
  refine VX.rs ?_
  refine VO.alloc 106 rfl tz56 (fun g5 => ?_)
  refine VO.kp [106, 104, 102, 0] [(106, mone g5 (.cells [Value.slice none (0) (0)].toArray 56 (0, 0))), (104, mone g3 (.cells [Value.slice none (0) (0)].toArray 25 (0, 0))), (102, mone g1 (.cells [Value.slice A0 (d0.length) (c0)].toArray 22 (0, 0))), (0, wm W)] ?_
  refine VO.k6 0 1 2 3 4 5 ?_
  refine VX.rs ?_
  refine VO.alloc 108 rfl tz3 (fun g7 => ?_)
  refine VO.store (k := 1) (c' := [Value.int .i64 (0)]) 108 rfl rfl (.inr ⟨tk3, rfl⟩) rfl rfl rfl rfl rfl ?_
  refine VO.k7 0 1 2 3 4 5 6 ?_
  refine VX.seq ?_
  refine VX.rs ?_
  refine VO.y rfl (.ld1 102 rfl tk22 rfl (cellsAt_one rfl rfl)) ?_
  refine VO.callN 109 rfl fnOk68 rfl (fun W hW => each_ok W (Rd.mono h0 (hW.at (i := 0) rfl)) bd) (fun v9 m9 hv9 => ?_)
  obtain ⟨ca9, rfl, hit9⟩ := hv9
  refine VO.k8 0 1 2 3 4 5 6 15 ?_
  refine VX.block ?_
  refine VX.inv ((110, mnil) :: _) (fun _ h => h.nilc 110) ?_
  refine VX.inv ((111, mnil) :: _) (fun _ h => h.nilc 111) ?_
  refine VX.gather (l := [mnil, mnil, mone g7 (.cells [Value.int .i64 (0)].toArray 3 (0, 0)), mone g5 (.cells [Value.slice none (0) (0)].toArray 56 (0, 0)), mone g3 (.cells [Value.slice none (0) (0)].toArray 25 (0, 0))]) 113 [111, 110, 108, 106, 104] rfl (fun hg12 => ?_)
  refine VX.inv [(109, m9), (113, muns [mnil, mnil, mone g7 (.cells [Value.int .i64 (0)].toArray 3 (0, 0)), mone g5 (.cells [Value.slice none (0) (0)].toArray 56 (0, 0)), mone g3 (.cells [Value.slice none (0) (0)].toArray 25 (0, 0))]), (102, mone g1 (.cells [Value.slice A0 (d0.length) (c0)].toArray 22 (0, 0))), (0, wm W)] (fun _ h => h.sub [109, 113, 102, 0]) ?_
  refine VX.rangeF (A := Int) (G := (List DCommit) × (Option Addr) × Nat × Mem × (List Int) × (Option Addr) × Nat × Mem × Int) (rest := [(102, mone g1 (.cells [Value.slice A0 (d0.length) (c0)].toArray 22 (0, 0))), (0, wm W)]) 113 109 114 115 116 117 (fun g => muns [(g.2.2.2.2.2.2.2.1), (g.2.2.2.1), mone g7 (.cells [Value.int .i64 ((g.2.2.2.2.2.2.2.2))].toArray 3 (0, 0)), mone g5 (.cells [Value.slice (g.2.2.2.2.2.1) ((g.2.2.2.2.1).length) ((g.2.2.2.2.2.2.1))].toArray 56 (0, 0)), mone g3 (.cells [Value.slice (g.2.1) ((g.1).length) ((g.2.2.1))].toArray 25 (0, 0))]) (fun at_ g => (logAt d0 (g.1) at_) ∧ ((g.2.2.2.2.1) = endsC (g.1)) ∧ ((g.2.2.2.2.2.2.2.2) = lastOr 0 (g.1)) ∧ (Ow (.sl TCommit) (g.2.2.2.1) [.slice (g.2.1) (g.1).length (g.2.2.1)] (g.1)) ∧ (OwnL (.int .i64) (g.2.2.2.2.2.2.2.1) mnil (.slice (g.2.2.2.2.2.1) (g.2.2.2.2.1).length (g.2.2.2.2.2.2.1)) (g.2.2.2.2.1)) ∧ (Seps (muns [(g.2.2.2.2.2.2.2.1), (g.2.2.2.1), mone g7 (.cells [Value.int .i64 ((g.2.2.2.2.2.2.2.2))].toArray 3 (0, 0)), mone g5 (.cells [Value.slice (g.2.2.2.2.2.1) ((g.2.2.2.2.1).length) ((g.2.2.2.2.2.2.1))].toArray 56 (0, 0)), mone g3 (.cells [Value.slice (g.2.1) ((g.1).length) ((g.2.2.1))].toArray 25 (0, 0))]) [(g.2.2.2.2.2.2.2.1), (g.2.2.2.1), mone g7 (.cells [Value.int .i64 ((g.2.2.2.2.2.2.2.2))].toArray 3 (0, 0)), mone g5 (.cells [Value.slice (g.2.2.2.2.2.1) ((g.2.2.2.2.1).length) ((g.2.2.2.2.2.2.1))].toArray 56 (0, 0)), mone g3 (.cells [Value.slice (g.2.1) ((g.1).length) ((g.2.2.1))].toArray 25 (0, 0))])) (fun e g => e = (.exit 0) ∧ ((logF d0).1 = (g.1)) ∧ ((g.2.2.2.2.1) = endsC (g.1)) ∧ (Ow (.sl TCommit) (g.2.2.2.1) [.slice (g.2.1) (g.1).length (g.2.2.1)] (g.1)) ∧ (OwnL (.int .i64) (g.2.2.2.2.2.2.2.1) mnil (.slice (g.2.2.2.2.2.1) (g.2.2.2.2.1).length (g.2.2.2.2.2.2.1)) (g.2.2.2.2.1)) ∧ (Seps (muns [(g.2.2.2.2.2.2.2.1), (g.2.2.2.1), mone g7 (.cells [Value.int .i64 ((g.2.2.2.2.2.2.2.2))].toArray 3 (0, 0)), mone g5 (.cells [Value.slice (g.2.2.2.2.2.1) ((g.2.2.2.2.1).length) ((g.2.2.2.2.2.2.1))].toArray 56 (0, 0)), mone g3 (.cells [Value.slice (g.2.1) ((g.1).length) ((g.2.2.1))].toArray 25 (0, 0))]) [(g.2.2.2.2.2.2.2.1), (g.2.2.2.1), mone g7 (.cells [Value.int .i64 ((g.2.2.2.2.2.2.2.2))].toArray 3 (0, 0)), mone g5 (.cells [Value.slice (g.2.2.2.2.2.1) ((g.2.2.2.2.1).length) ((g.2.2.2.2.2.2.1))].toArray 56 (0, 0)), mone g3 (.cells [Value.slice (g.2.1) ((g.1).length) ((g.2.2.1))].toArray 25 (0, 0))])) ([], none, 0, mnil, [], none, 0, mnil, 0) ⟨by exact logAt_0 d0, by rfl, by rfl, (Ow.nil TCommit mnil), (OwnL.nil (.int .i64) mnil mnil), hg12⟩ (fun _ _ => hit9) rfl rfl rfl (fun _ _ _ h => by obtain ⟨_, _, _, _, _, rfl, _⟩ := h; rfl) (fun args => [(7, args.getD 0 undef), (8, args.getD 1 undef), (0, Value.slice A0 (d0.length) (c0)), (1, Value.pointer (some ⟨g1, 0, none⟩)), (2, Value.slice none (0) (0)), (3, Value.slice none (0) (0)), (4, Value.pointer (some ⟨g3, 0, none⟩)), (5, Value.pointer (some ⟨g5, 0, none⟩)), (6, Value.pointer (some ⟨g7, 0, none⟩))]) ?_ ?_ ?_ ?_
  · intro w1_ l_ args_ Ω_ hl_
    obtain ⟨y0_, y1_, rfl⟩ : ∃ y0_ y1_, args_ = [y0_, y1_] := (match args_, hl_ with | [y0_, y1_], _ => ⟨y0_, y1_, rfl⟩)
    refine VX.rs ?_
    refine VO.as ?_
    refine VO.nil ?_
    refine VX.reg ?_
    refine VO.as ?_
    refine VO.nil ?_
    exact ⟨rfl, rfl, ⟨rfl, rfl, rfl, rfl, rfl, rfl, rfl, rfl, rfl, trivial⟩, rfl⟩
  · -- B
    rintro w1_ l_ D_ at_ ⟨l, l_A, l_c, l_m, es, es_A, es_c, es_m, ep⟩ args_ mr_ ml_ mo_ ⟨hl, he, hep, h_l, h_es, hSep_⟩ hE_
    replace hl : logAt d0 l at_ := hl
    replace he : es = endsC l := he
    replace hep : ep = lastOr 0 l := hep
    replace h_l : Ow (.sl TCommit) l_m [.slice l_A l.length l_c] l := h_l
    replace h_es : OwnL (.int .i64) es_m mnil (.slice es_A es.length es_c) es := h_es
    replace hSep_ : Seps (muns [es_m, l_m, mone g7 (.cells [Value.int .i64 (ep)].toArray 3 (0, 0)), mone g5 (.cells [Value.slice es_A (es.length) (es_c)].toArray 56 (0, 0)), mone g3 (.cells [Value.slice l_A (l.length) (l_c)].toArray 25 (0, 0))]) [es_m, l_m, mone g7 (.cells [Value.int .i64 (ep)].toArray 3 (0, 0)), mone g5 (.cells [Value.slice es_A (es.length) (es_c)].toArray 56 (0, 0)), mone g3 (.cells [Value.slice l_A (l.length) (l_c)].toArray 25 (0, 0))] := hSep_
    obtain ⟨hat0, hat1, hat2, rA, rc, rfl, hrec⟩ := hE_
    obtain ⟨hrl, hrc⟩ := Ow.rm hrec
    have hrb := fRead_bounds (d0.drop at_.toNat)
    have hll := logAt_len hl
    have hel := endsC_len l; rw [← he] at hel
    have hlr := lastOr_range hl.2.2.1; rw [← hep] at hlr
    refine VX.parts 113 [111, 110, 108, 106, 104] rfl hSep_ ?_
    show VX _ _ _ _ _ _ _ [(7, Value.int .i64 (at_)), (8, Value.slice rA ((fRead (d0.drop at_.toNat)).1.length) (rc)), (0, Value.slice A0 (d0.length) (c0)), (1, Value.pointer (some ⟨g1, 0, none⟩)), (2, Value.slice none (0) (0)), (3, Value.slice none (0) (0)), (4, Value.pointer (some ⟨g3, 0, none⟩)), (5, Value.pointer (some ⟨g5, 0, none⟩)), (6, Value.pointer (some ⟨g7, 0, none⟩))] [(111, es_m), (110, l_m), (108, mone g7 (.cells [Value.int .i64 (ep)].toArray 3 (0, 0))), (106, mone g5 (.cells [Value.slice es_A (es.length) (es_c)].toArray 56 (0, 0))), (104, mone g3 (.cells [Value.slice l_A (l.length) (l_c)].toArray 25 (0, 0))), (116, mr_), (117, mo_), (115, ml_), (114, mone D_ (.deferred (some []))), (102, mone g1 (.cells [Value.slice A0 (d0.length) (c0)].toArray 22 (0, 0))), (0, wm W)]
    have l_l : l.length ≤ l_c := by obtain ⟨_, _, he, hl, _⟩ := h_l.slice; simp only [Value.slice.injEq] at he; omega
    have k_l : l_c ≤ 9223372036854775807 := by obtain ⟨_, _, he, _, hl⟩ := h_l.slice; simp only [Value.slice.injEq, maxLen] at he hl; omega
    have l_es : es.length ≤ es_c := by obtain ⟨_, _, he, hl, _⟩ := h_es.slice; simp only [Value.slice.injEq] at he; omega
    have k_es : es_c ≤ 9223372036854775807 := by obtain ⟨_, _, he, _, hl⟩ := h_es.slice; simp only [Value.slice.injEq, maxLen] at he hl; omega
    refine VX.block ?_
    refine VX.rs ?_
    refine VO.mv ?_
    refine VO.callN 118 rfl fnOk69 rfl (fun W hW => cDecode_ok_ W (OwnL.rd (Ow.ownl hrec rfl mnil) (hW.at (i := 116) rfl) (mle_nil _))) (fun v18 m18 hv18 => ?_)
    obtain ⟨s18_0, rfl, f18_0⟩ := hv18
    have hfa19 := cDecode_fits ((fRead (d0.drop at_.toNat)).1)
    obtain ⟨q18_0_A2, q18_0_c2, q18_0_n2, rfl, q18_0_S, q18_0_0, q18_0_1, q18_0_2⟩ := openO_Commit (x0 := ((cDecode ((fRead (d0.drop at_.toNat)).1)).1).1) (x1 := ((cDecode ((fRead (d0.drop at_.toNat)).1)).1).2.1) (x2 := ((cDecode ((fRead (d0.drop at_.toNat)).1)).1).2.2) f18_0
    simp only [inK] at q18_0_0
    simp only [inK] at q18_0_1
    have q18_0_r2 := q18_0_2.rm
    refine VO.inv _ (fun _ h => h.parts (i := 118) rfl q18_0_S [120]) ?_
    refine VO.mv ?_
    refine VO.y rfl (.ext rfl rfl) ?_
    refine VO.y rfl (.ext rfl rfl) ?_
    refine VO.alloc 122 rfl tz42 (fun g21 => ?_)
    refine VO.store (k := 3) (c' := [Value.int .i64 (((cDecode ((fRead (d0.drop at_.toNat)).1)).1).1), Value.int .i64 (((cDecode ((fRead (d0.drop at_.toNat)).1)).1).2.1), Value.slice q18_0_A2 ((((cDecode ((fRead (d0.drop at_.toNat)).1)).1).2.2).length) (q18_0_c2)]) 122 rfl rfl (.inl tk42) rfl rfl rfl rfl rfl ?_
    refine VO.as ?_
    refine VO.kp [122, 120, 111, 110, 108, 106, 104, 116, 117, 115, 114, 102, 0] [(122, mone g21 (.cells [Value.int .i64 (((cDecode ((fRead (d0.drop at_.toNat)).1)).1).1), Value.int .i64 (((cDecode ((fRead (d0.drop at_.toNat)).1)).1).2.1), Value.slice q18_0_A2 ((((cDecode ((fRead (d0.drop at_.toNat)).1)).1).2.2).length) (q18_0_c2)].toArray 42 (0, 0))), (120, q18_0_n2), (111, es_m), (110, l_m), (108, mone g7 (.cells [Value.int .i64 (ep)].toArray 3 (0, 0))), (106, mone g5 (.cells [Value.slice es_A (es.length) (es_c)].toArray 56 (0, 0))), (104, mone g3 (.cells [Value.slice l_A (l.length) (l_c)].toArray 25 (0, 0))), (116, mr_), (117, mo_), (115, ml_), (114, mone D_ (.deferred (some []))), (102, mone g1 (.cells [Value.slice A0 (d0.length) (c0)].toArray 22 (0, 0))), (0, wm W)] ?_
    refine VO.k11 0 1 2 3 4 5 6 7 8 9 10 ?_
    refine VX.seq ?_
    refine VX.rs ?_
    refine VO.mv ?_
    refine VO.y rfl (.neq rfl rfl) ?_
    refine VO.mv ?_
    refine VO.dec (t := 25) rfl (fun hc23 => ?_) (fun hc23 => ?_)
    · -- BT
      refine VO.gN ?_
      refine VO.gN ?_
      refine VO.gN ?_
      refine VO.gN ?_
      refine VO.gN ?_
      refine VO.gN ?_
      refine VO.gN ?_
      refine VO.gN ?_
      refine VO.y rfl (.pT rfl rfl) ?_
      refine VO.k12 0 1 2 3 4 5 6 7 8 9 10 34 ?_
      refine VX.condT rfl ?_
      refine VX.exit ?_
      refine outE ?_
      refine outBE rfl ?_
      exact ⟨rfl, fun W_ hW_ => ⟨⟨l, l_A, l_c, l_m, es, es_A, es_c, es_m, ep⟩, (hW_.gather (ids := [111, 110, 108, 106, 104]) 113 rfl).1.sub [117, 115, 113, 114, 102, 0], .inr ⟨rfl, rfl, by first | exact congrArg Prod.fst (logAt_end hl (no_of1 (by assumption))) | exact congrArg Prod.fst (logAt_end hl (no_of2 hep (by assumption))), by exact he, h_l, h_es, (hW_.gather (ids := [111, 110, 108, 106, 104]) 113 rfl).2⟩⟩⟩
    · -- BF
      refine VO.gy rfl ⟨_, rfl, rfl⟩ (.ld1 108 rfl tk3 rfl (cellsAt_one rfl rfl)) ?_
      refine VO.gy rfl ⟨_, rfl, rfl⟩ (.ld1 104 rfl tk25 rfl (cellsAt_one rfl rfl)) ?_
      refine VO.gy rfl ⟨_, rfl, rfl⟩ (.lenS rfl tsl25) ?_
      refine VO.gy rfl ⟨_, rfl, rfl⟩ (.ldA 122 rfl tk42 rfl (cellsAt_one rfl rfl)) ?_
      refine VO.gbsl (cs := [Value.int .i64 (((cDecode ((fRead (d0.drop at_.toNat)).1)).1).1), Value.int .i64 (((cDecode ((fRead (d0.drop at_.toNat)).1)).1).2.1), Value.slice q18_0_A2 ((((cDecode ((fRead (d0.drop at_.toNat)).1)).1).2.2).length) (q18_0_c2)]) 125 rfl ⟨_, rfl, rfl⟩ rfl tsl25 tz42 rfl rfl (fun g24 => ?_)
      refine VO.gather (l := [mone g24 (.cells [Value.int .i64 (((cDecode ((fRead (d0.drop at_.toNat)).1)).1).1), Value.int .i64 (((cDecode ((fRead (d0.drop at_.toNat)).1)).1).2.1), Value.slice q18_0_A2 ((((cDecode ((fRead (d0.drop at_.toNat)).1)).1).2.2).length) (q18_0_c2)].toArray 42 (0, 0)), q18_0_n2]) 128 [125, 120] rfl (fun hg27 => ?_)
      have ho27 : Ow (.sl TCommit) (muns [mone g24 (.cells [Value.int .i64 (((cDecode ((fRead (d0.drop at_.toNat)).1)).1).1), Value.int .i64 (((cDecode ((fRead (d0.drop at_.toNat)).1)).1).2.1), Value.slice q18_0_A2 ((((cDecode ((fRead (d0.drop at_.toNat)).1)).1).2.2).length) (q18_0_c2)].toArray 42 (0, 0)), q18_0_n2]) [Value.slice (some ⟨g24, 0, none⟩) (1) (1)] [((cDecode ((fRead (d0.drop at_.toNat)).1)).1)] := Ow.lit 1 (Seps.grp1 (ls := [[q18_0_n2]]) hg27) (OwAs.cons (m := muns [q18_0_n2]) (c1 := [Value.int .i64 (((cDecode ((fRead (d0.drop at_.toNat)).1)).1).1), Value.int .i64 (((cDecode ((fRead (d0.drop at_.toNat)).1)).1).2.1), Value.slice q18_0_A2 ((((cDecode ((fRead (d0.drop at_.toNat)).1)).1).2.2).length) (q18_0_c2)]) (show Ow TCommit _ _ ((cDecode ((fRead (d0.drop at_.toNat)).1)).1) from (mkO_Commit (((cDecode ((fRead (d0.drop at_.toNat)).1)).1).1) (((cDecode ((fRead (d0.drop at_.toNat)).1)).1).2.1) (((cDecode ((fRead (d0.drop at_.toNat)).1)).1).2.2) (Seps.self hg27 (List.Sublist.cons _ (List.Sublist.cons_cons _ List.Sublist.slnil))) bdk bdk (OwnL.ow (Ow.ownl q18_0_2 rfl mnil) rfl))) OwAs.nil) rfl rfl
      refine VO.gcallN 126 rfl ⟨_, rfl, rfl⟩ fnOk54 rfl (fun W hW => follows_ok W ep bdk ((l.length : Nat) : Int) bdk (Ow.rd ho27 (hW.at (i := 128) rfl))) (fun v26 m26 hv26 => ?_)
      obtain ⟨s26_0, rfl, f26_0⟩ := hv26
      obtain ⟨rfl, q26_0_0, q26_0_1⟩ := open_Fault (x0 := (cFollows ep ((l.length : Nat) : Int) ([((cDecode ((fRead (d0.drop at_.toNat)).1)).1)])).1) (x1 := (cFollows ep ((l.length : Nat) : Int) ([((cDecode ((fRead (d0.drop at_.toNat)).1)).1)])).2) (f26_0.rd (mle_refl _))
      simp only [inK] at q26_0_0
      simp only [inK] at q26_0_1
      refine VO.parts 128 [125, 120] rfl hg27 ?_
      refine VO.gy rfl ⟨_, rfl, rfl⟩ (.fld1 rfl tst69 rfl tfk69_0 rfl) ?_
      refine VO.gy rfl ⟨_, rfl, rfl⟩ (.neq rfl rfl) ?_
      refine VO.y rfl (.pF rfl rfl) ?_
      refine VO.k12 0 1 2 3 4 5 6 7 8 9 10 34 ?_
      refine VX.cond rfl (fun hc29 => ?_) (fun hc29 => ?_)
      · -- BFT
        refine VX.exit ?_
        refine outE ?_
        refine outBE rfl ?_
        exact ⟨rfl, fun W_ hW_ => ⟨⟨l, l_A, l_c, l_m, es, es_A, es_c, es_m, ep⟩, (hW_.gather (ids := [111, 110, 108, 106, 104]) 113 rfl).1.sub [117, 115, 113, 114, 102, 0], .inr ⟨rfl, rfl, by first | exact congrArg Prod.fst (logAt_end hl (no_of1 (by assumption))) | exact congrArg Prod.fst (logAt_end hl (no_of2 hep (by assumption))), by exact he, h_l, h_es, (hW_.gather (ids := [111, 110, 108, 106, 104]) 113 rfl).2⟩⟩⟩
      · -- BFF
        refine VX.skip ?_
        refine outN ?_
        refine VX.rs ?_
        refine VO.y rfl (.ld1 102 rfl tk22 rfl (cellsAt_one rfl rfl)) ?_
        refine VO.mv ?_
        obtain ⟨A30, hA30, hs30⟩ := h0.drop 1 ((at_).toNat) rfl bd
        refine VO.y rfl (.slLI ((at_).toNat) A30 rfl rfl tsl22 bd hA30 bd) ?_
        refine VO.callN 131 rfl fnOk70 rfl (fun W hW => fRead_ok W (Rd.mono hs30 (hW.at (i := 0) rfl))) (fun v31 m31 hv31 => ?_)
        obtain ⟨s31_0, rfl, f31_0⟩ := hv31
        have hfa32 := fRead_bounds (d0.drop ((at_).toNat))
        obtain ⟨A31_0, c31_0, eq31_0, l31_0, k31_0⟩ := f31_0.slice
        subst eq31_0
        simp only [maxLen] at k31_0
        refine VO.mv ?_
        refine VO.y rfl (.ext rfl rfl) ?_
        refine VO.y rfl (.ext rfl rfl) ?_
        refine VO.y rfl (.ext rfl rfl) ?_
        refine VO.as ?_
        refine VO.as ?_
        refine VO.as ?_
        refine VO.k13 0 1 2 3 4 5 6 7 8 9 10 12 34 ?_
        refine VX.inv _ (fun _ h => Inv.num h 106 2106 rfl) ?_
        refine VX.inv _ (fun _ h => Inv.num h 104 2104 rfl) ?_
        refine VX.regE [(131, m31), (125, mone g24 (.cells [Value.int .i64 (((cDecode ((fRead (d0.drop at_.toNat)).1)).1).1), Value.int .i64 (((cDecode ((fRead (d0.drop at_.toNat)).1)).1).2.1), Value.slice q18_0_A2 ((((cDecode ((fRead (d0.drop at_.toNat)).1)).1).2.2).length) (q18_0_c2)].toArray 42 (0, 0))), (126, m26), (122, mone g21 (.cells [Value.int .i64 (((cDecode ((fRead (d0.drop at_.toNat)).1)).1).1), Value.int .i64 (((cDecode ((fRead (d0.drop at_.toNat)).1)).1).2.1), Value.slice q18_0_A2 ((((cDecode ((fRead (d0.drop at_.toNat)).1)).1).2.2).length) (q18_0_c2)].toArray 42 (0, 0))), (108, mone g7 (.cells [Value.int .i64 (ep)].toArray 3 (0, 0))), (2106, mone g5 (.cells [Value.slice es_A (es.length) (es_c)].toArray 56 (0, 0))), (2104, mone g3 (.cells [Value.slice l_A (l.length) (l_c)].toArray 25 (0, 0))), (116, mr_), (117, mo_), (115, ml_), (114, mone D_ (.deferred (some []))), (102, mone g1 (.cells [Value.slice A0 (d0.length) (c0)].toArray 22 (0, 0))), (0, wm W)] 14 follows (by kernel_rfl) (fun _ h => h.sub [131, 125, 126, 122, 108, 2106, 2104, 116, 117, 115, 114, 102, 0]) ?_
        refine VE.yH 0 rfl rfl (.inl rfl) (by kernel_rfl) (by kernel_rfl) (.ld1 2104 rfl tk25 rfl (cellsAt_one rfl rfl)) ?_
        refine VE.y 1 rfl rfl (.inl rfl) (by kernel_rfl) (.ldA 122 rfl tk42 rfl (cellsAt_one rfl rfl)) ?_
        refine VE.yH 4 rfl rfl (.inl rfl) (by kernel_rfl) (by kernel_rfl) (.ld1 2106 rfl tk56 rfl (cellsAt_one rfl rfl)) ?_
        refine VE.y 5 rfl rfl (.inl rfl) (by kernel_rfl) (.mv rfl) ?_
        refine VE.y 6 rfl rfl (.inl rfl) (by kernel_rfl) (.mv rfl) ?_
        refine VE.y 7 rfl rfl (.inl rfl) (by kernel_rfl) (.add rfl rfl rfl ⟨bd, bd⟩) ?_
        refine VE.y 10 rfl rfl (.inl rfl) (by kernel_rfl) (.fa rfl tst42 rfl) ?_
        refine VE.y 11 rfl rfl (.inl rfl) (by kernel_rfl) (.ld1 122 rfl tk3 rfl (cellsAt_one rfl rfl)) ?_
        refine VE.tree [2, 8] (by kernel_rfl) ⟨?_, ?_, trivial⟩
        · -- BFF0
          refine VI.bsl (cs := [Value.int .i64 (((cDecode ((fRead (d0.drop at_.toNat)).1)).1).1), Value.int .i64 (((cDecode ((fRead (d0.drop at_.toNat)).1)).1).2.1), Value.slice q18_0_A2 ((((cDecode ((fRead (d0.drop at_.toNat)).1)).1).2.2).length) (q18_0_c2)]) 134 rfl rfl rfl tsl25 tz42 rfl rfl (fun _ h => Inv.sbK [131, 125, 126, 122, 108, 2106, 2104, 116, 117, 115, 114, 102, 0] h) (fun g33 => ?_)
          refine VE.tree [3, 8] (by kernel_rfl) ⟨?_, ?_, trivial⟩
          · -- BFF00
            refine VI.appO (e := TCommit) 110 120 134 rfl rfl rfl rfl tsl25 tz42 rfl rfl rfl rfl h_l (show Ow TCommit _ _ ((cDecode ((fRead (d0.drop at_.toNat)).1)).1) from (mkO_Commit (((cDecode ((fRead (d0.drop at_.toNat)).1)).1).1) (((cDecode ((fRead (d0.drop at_.toNat)).1)).1).2.1) (((cDecode ((fRead (d0.drop at_.toNat)).1)).1).2.2) (Seps.one (mle_refl _)) bdk bdk (OwnL.ow (Ow.ownl q18_0_2 rfl mnil) rfl))) Try.underlying25 (cellsAt_one rfl rfl) bdm bd (by decide) (fun _ _ h => Inv.sbK [131, 125, 126, 122, 108, 2106, 2104, 116, 117, 115, 114, 102, 0] h) (fun v35 m35 ho35 => ?_)
            obtain ⟨A35, c35, rfl, l35, k35⟩ := ho35.slice
            simp only [maxLen] at k35
            refine VE.tree [8] (by kernel_rfl) ⟨?_, trivial⟩
            refine VI.bsl (cs := [Value.int .i64 (at_ + ((fRead (d0.drop ((at_).toNat))).2.1))]) 137 rfl rfl rfl tsl56 tz3 rfl rfl (fun _ h => Inv.sbK [131, 125, 126, 122, 108, 2106, 2104, 116, 117, 115, 114, 102, 0] h) (fun g36 => ?_)
            refine VE.tree [9] (by kernel_rfl) ⟨?_, trivial⟩
            obtain ⟨mo38, cs38, hM38, hA38, hC38⟩ := h_es
            refine VI.app 111 rfl rfl rfl rfl tsl56 tz3 rfl rfl hM38 hA38 (.row 137 _ _ _ 1 1 _ _ Try.underlying56 rfl (cellsAt_one rfl rfl)) (by simp [Value.oneCell']) bdm bd (by decide) (fun _ _ h => Inv.sbK [131, 125, 126, 122, 108, 2106, 2104, 116, 117, 115, 114, 102, 0] h) (fun v38 m38 hN38 => ?_)
            have ho38 : OwnL (.int .i64) m38 mnil v38 (es ++ [(at_ + ((fRead (d0.drop ((at_).toNat))).2.1))]) := OwnL.one hC38 hN38 (show Rd (.int .i64) _ [_] _ from ⟨rfl, by simp only [inK]; (first | omega | (simp only [List.length_append, List.length_nil, List.length_cons, List.length_take, List.length_drop] at *; omega))⟩)
            obtain ⟨A38, c38, rfl, l38, k38⟩ := ho38.slice
            simp only [maxLen] at k38
            refine VE.tree [12] (by kernel_rfl) ⟨?_, trivial⟩
            refine VI.storeH (k := 1) (c' := [Value.slice A35 ((l ++ [((cDecode ((fRead (d0.drop at_.toNat)).1)).1)]).length) (c35)]) 2104 rfl rfl rfl (.inr ⟨tk25, rfl⟩) rfl rfl rfl rfl rfl (fun _ h => Inv.sbK [131, 125, 126, 122, 108, 116, 117, 115, 114, 102, 0] h) ?_
            refine VE.tree [13] (by kernel_rfl) ⟨?_, trivial⟩
            refine VI.storeH (k := 1) (c' := [Value.slice A38 ((es ++ [(at_ + ((fRead (d0.drop ((at_).toNat))).2.1))]).length) (c38)]) 2106 rfl rfl rfl (.inr ⟨tk56, rfl⟩) rfl rfl rfl rfl rfl (fun _ h => Inv.sbK [131, 125, 126, 122, 108, 116, 117, 115, 114, 102, 0] h) ?_
            refine VE.nil (by kernel_rfl) rfl ?_ rfl
            refine VO.store (k := 1) (c' := [Value.int .i64 (((cDecode ((fRead (d0.drop at_.toNat)).1)).1).1)]) 108 rfl rfl (.inr ⟨tk3, rfl⟩) rfl rfl rfl rfl rfl ?_
            refine VO.kp [110, 122, 111, 108, 2106, 2104, 116, 117, 115, 114, 102, 0] [(110, m35), (122, mone g21 (.cells [Value.int .i64 (((cDecode ((fRead (d0.drop at_.toNat)).1)).1).1), Value.int .i64 (((cDecode ((fRead (d0.drop at_.toNat)).1)).1).2.1), Value.slice q18_0_A2 ((((cDecode ((fRead (d0.drop at_.toNat)).1)).1).2.2).length) (q18_0_c2)].toArray 42 (0, 0))), (111, m38), (108, mone g7 (.cells [Value.int .i64 (((cDecode ((fRead (d0.drop at_.toNat)).1)).1).1)].toArray 3 (0, 0))), (2106, mone g5 (.cells [Value.slice A38 ((es ++ [(at_ + ((fRead (d0.drop ((at_).toNat))).2.1))]).length) (c38)].toArray 56 (0, 0))), (2104, mone g3 (.cells [Value.slice A35 ((l ++ [((cDecode ((fRead (d0.drop at_.toNat)).1)).1)]).length) (c35)].toArray 25 (0, 0))), (116, mr_), (117, mo_), (115, ml_), (114, mone D_ (.deferred (some []))), (102, mone g1 (.cells [Value.slice A0 (d0.length) (c0)].toArray 22 (0, 0))), (0, wm W)] ?_
            refine VO.k13 0 1 2 3 4 5 6 7 8 9 10 12 34 ?_
            refine outBN ?_
            exact ⟨rfl, fun W_ hW_ => ⟨⟨l ++ [((cDecode ((fRead (d0.drop at_.toNat)).1)).1)], A35, c35, m35, es ++ [(at_ + ((fRead (d0.drop ((at_).toNat))).2.1))], A38, c38, m38, ((cDecode ((fRead (d0.drop at_.toNat)).1)).1).1⟩, (hW_.gather (ids := [111, 110, 108, 2106, 2104]) 113 rfl).1.sub [117, 115, 113, 114, 102, 0], .inl ⟨rfl, by exact logAt_next hl (ok_of hat2 (by assumption) hep (by assumption)), by exact ends_next he hl (ok_of hat2 (by assumption) hep (by assumption)), by exact lastOr_snoc.symm, ho35, ho38, (hW_.gather (ids := [111, 110, 108, 2106, 2104]) 113 rfl).2⟩⟩⟩
          · -- BFF01
            refine VI.bsl (cs := [Value.int .i64 (at_ + ((fRead (d0.drop ((at_).toNat))).2.1))]) 140 rfl rfl rfl tsl56 tz3 rfl rfl (fun _ h => Inv.sbK [131, 125, 126, 122, 108, 2106, 2104, 116, 117, 115, 114, 102, 0] h) (fun g39 => ?_)
            refine VE.tree [3] (by kernel_rfl) ⟨?_, trivial⟩
            refine VI.appO (e := TCommit) 110 120 134 rfl rfl rfl rfl tsl25 tz42 rfl rfl rfl rfl h_l (show Ow TCommit _ _ ((cDecode ((fRead (d0.drop at_.toNat)).1)).1) from (mkO_Commit (((cDecode ((fRead (d0.drop at_.toNat)).1)).1).1) (((cDecode ((fRead (d0.drop at_.toNat)).1)).1).2.1) (((cDecode ((fRead (d0.drop at_.toNat)).1)).1).2.2) (Seps.one (mle_refl _)) bdk bdk (OwnL.ow (Ow.ownl q18_0_2 rfl mnil) rfl))) Try.underlying25 (cellsAt_one rfl rfl) bdm bd (by decide) (fun _ _ h => Inv.sbK [131, 125, 126, 122, 108, 2106, 2104, 116, 117, 115, 114, 102, 0] h) (fun v41 m41 ho41 => ?_)
            obtain ⟨A41, c41, rfl, l41, k41⟩ := ho41.slice
            simp only [maxLen] at k41
            refine VE.tree [9] (by kernel_rfl) ⟨?_, trivial⟩
            obtain ⟨mo42, cs42, hM42, hA42, hC42⟩ := h_es
            refine VI.app 111 rfl rfl rfl rfl tsl56 tz3 rfl rfl hM42 hA42 (.row 140 _ _ _ 1 1 _ _ Try.underlying56 rfl (cellsAt_one rfl rfl)) (by simp [Value.oneCell']) bdm bd (by decide) (fun _ _ h => Inv.sbK [131, 125, 126, 122, 108, 2106, 2104, 116, 117, 115, 114, 102, 0] h) (fun v42 m42 hN42 => ?_)
            have ho42 : OwnL (.int .i64) m42 mnil v42 (es ++ [(at_ + ((fRead (d0.drop ((at_).toNat))).2.1))]) := OwnL.one hC42 hN42 (show Rd (.int .i64) _ [_] _ from ⟨rfl, by simp only [inK]; (first | omega | (simp only [List.length_append, List.length_nil, List.length_cons, List.length_take, List.length_drop] at *; omega))⟩)
            obtain ⟨A42, c42, rfl, l42, k42⟩ := ho42.slice
            simp only [maxLen] at k42
            refine VE.tree [12] (by kernel_rfl) ⟨?_, trivial⟩
            refine VI.storeH (k := 1) (c' := [Value.slice A41 ((l ++ [((cDecode ((fRead (d0.drop at_.toNat)).1)).1)]).length) (c41)]) 2104 rfl rfl rfl (.inr ⟨tk25, rfl⟩) rfl rfl rfl rfl rfl (fun _ h => Inv.sbK [131, 125, 126, 122, 108, 116, 117, 115, 114, 102, 0] h) ?_
            refine VE.tree [13] (by kernel_rfl) ⟨?_, trivial⟩
            refine VI.storeH (k := 1) (c' := [Value.slice A42 ((es ++ [(at_ + ((fRead (d0.drop ((at_).toNat))).2.1))]).length) (c42)]) 2106 rfl rfl rfl (.inr ⟨tk56, rfl⟩) rfl rfl rfl rfl rfl (fun _ h => Inv.sbK [131, 125, 126, 122, 108, 116, 117, 115, 114, 102, 0] h) ?_
            refine VE.nil (by kernel_rfl) rfl ?_ rfl
            refine VO.store (k := 1) (c' := [Value.int .i64 (((cDecode ((fRead (d0.drop at_.toNat)).1)).1).1)]) 108 rfl rfl (.inr ⟨tk3, rfl⟩) rfl rfl rfl rfl rfl ?_
            refine VO.kp [110, 122, 111, 108, 2106, 2104, 116, 117, 115, 114, 102, 0] [(110, m41), (122, mone g21 (.cells [Value.int .i64 (((cDecode ((fRead (d0.drop at_.toNat)).1)).1).1), Value.int .i64 (((cDecode ((fRead (d0.drop at_.toNat)).1)).1).2.1), Value.slice q18_0_A2 ((((cDecode ((fRead (d0.drop at_.toNat)).1)).1).2.2).length) (q18_0_c2)].toArray 42 (0, 0))), (111, m42), (108, mone g7 (.cells [Value.int .i64 (((cDecode ((fRead (d0.drop at_.toNat)).1)).1).1)].toArray 3 (0, 0))), (2106, mone g5 (.cells [Value.slice A42 ((es ++ [(at_ + ((fRead (d0.drop ((at_).toNat))).2.1))]).length) (c42)].toArray 56 (0, 0))), (2104, mone g3 (.cells [Value.slice A41 ((l ++ [((cDecode ((fRead (d0.drop at_.toNat)).1)).1)]).length) (c41)].toArray 25 (0, 0))), (116, mr_), (117, mo_), (115, ml_), (114, mone D_ (.deferred (some []))), (102, mone g1 (.cells [Value.slice A0 (d0.length) (c0)].toArray 22 (0, 0))), (0, wm W)] ?_
            refine VO.k13 0 1 2 3 4 5 6 7 8 9 10 12 34 ?_
            refine outBN ?_
            exact ⟨rfl, fun W_ hW_ => ⟨⟨l ++ [((cDecode ((fRead (d0.drop at_.toNat)).1)).1)], A41, c41, m41, es ++ [(at_ + ((fRead (d0.drop ((at_).toNat))).2.1))], A42, c42, m42, ((cDecode ((fRead (d0.drop at_.toNat)).1)).1).1⟩, (hW_.gather (ids := [111, 110, 108, 2106, 2104]) 113 rfl).1.sub [117, 115, 113, 114, 102, 0], .inl ⟨rfl, by exact logAt_next hl (ok_of hat2 (by assumption) hep (by assumption)), by exact ends_next he hl (ok_of hat2 (by assumption) hep (by assumption)), by exact lastOr_snoc.symm, ho41, ho42, (hW_.gather (ids := [111, 110, 108, 2106, 2104]) 113 rfl).2⟩⟩⟩
        · -- BFF1
          refine VI.bsl (cs := [Value.int .i64 (at_ + ((fRead (d0.drop ((at_).toNat))).2.1))]) 144 rfl rfl rfl tsl56 tz3 rfl rfl (fun _ h => Inv.sbK [131, 125, 126, 122, 108, 2106, 2104, 116, 117, 115, 114, 102, 0] h) (fun g43 => ?_)
          refine VE.tree [2] (by kernel_rfl) ⟨?_, trivial⟩
          refine VI.bsl (cs := [Value.int .i64 (((cDecode ((fRead (d0.drop at_.toNat)).1)).1).1), Value.int .i64 (((cDecode ((fRead (d0.drop at_.toNat)).1)).1).2.1), Value.slice q18_0_A2 ((((cDecode ((fRead (d0.drop at_.toNat)).1)).1).2.2).length) (q18_0_c2)]) 146 rfl rfl rfl tsl25 tz42 rfl rfl (fun _ h => Inv.sbK [131, 125, 126, 122, 108, 2106, 2104, 116, 117, 115, 114, 102, 0] h) (fun g45 => ?_)
          refine VE.tree [3] (by kernel_rfl) ⟨?_, trivial⟩
          refine VI.appO (e := TCommit) 110 120 146 rfl rfl rfl rfl tsl25 tz42 rfl rfl rfl rfl h_l (show Ow TCommit _ _ ((cDecode ((fRead (d0.drop at_.toNat)).1)).1) from (mkO_Commit (((cDecode ((fRead (d0.drop at_.toNat)).1)).1).1) (((cDecode ((fRead (d0.drop at_.toNat)).1)).1).2.1) (((cDecode ((fRead (d0.drop at_.toNat)).1)).1).2.2) (Seps.one (mle_refl _)) bdk bdk (OwnL.ow (Ow.ownl q18_0_2 rfl mnil) rfl))) Try.underlying25 (cellsAt_one rfl rfl) bdm bd (by decide) (fun _ _ h => Inv.sbK [131, 125, 126, 122, 108, 2106, 2104, 116, 117, 115, 114, 102, 0] h) (fun v47 m47 ho47 => ?_)
          obtain ⟨A47, c47, rfl, l47, k47⟩ := ho47.slice
          simp only [maxLen] at k47
          refine VE.tree [9] (by kernel_rfl) ⟨?_, trivial⟩
          obtain ⟨mo48, cs48, hM48, hA48, hC48⟩ := h_es
          refine VI.app 111 rfl rfl rfl rfl tsl56 tz3 rfl rfl hM48 hA48 (.row 144 _ _ _ 1 1 _ _ Try.underlying56 rfl (cellsAt_one rfl rfl)) (by simp [Value.oneCell']) bdm bd (by decide) (fun _ _ h => Inv.sbK [131, 125, 126, 122, 108, 2106, 2104, 116, 117, 115, 114, 102, 0] h) (fun v48 m48 hN48 => ?_)
          have ho48 : OwnL (.int .i64) m48 mnil v48 (es ++ [(at_ + ((fRead (d0.drop ((at_).toNat))).2.1))]) := OwnL.one hC48 hN48 (show Rd (.int .i64) _ [_] _ from ⟨rfl, by simp only [inK]; (first | omega | (simp only [List.length_append, List.length_nil, List.length_cons, List.length_take, List.length_drop] at *; omega))⟩)
          obtain ⟨A48, c48, rfl, l48, k48⟩ := ho48.slice
          simp only [maxLen] at k48
          refine VE.tree [12] (by kernel_rfl) ⟨?_, trivial⟩
          refine VI.storeH (k := 1) (c' := [Value.slice A47 ((l ++ [((cDecode ((fRead (d0.drop at_.toNat)).1)).1)]).length) (c47)]) 2104 rfl rfl rfl (.inr ⟨tk25, rfl⟩) rfl rfl rfl rfl rfl (fun _ h => Inv.sbK [131, 125, 126, 122, 108, 116, 117, 115, 114, 102, 0] h) ?_
          refine VE.tree [13] (by kernel_rfl) ⟨?_, trivial⟩
          refine VI.storeH (k := 1) (c' := [Value.slice A48 ((es ++ [(at_ + ((fRead (d0.drop ((at_).toNat))).2.1))]).length) (c48)]) 2106 rfl rfl rfl (.inr ⟨tk56, rfl⟩) rfl rfl rfl rfl rfl (fun _ h => Inv.sbK [131, 125, 126, 122, 108, 116, 117, 115, 114, 102, 0] h) ?_
          refine VE.nil (by kernel_rfl) rfl ?_ rfl
          refine VO.store (k := 1) (c' := [Value.int .i64 (((cDecode ((fRead (d0.drop at_.toNat)).1)).1).1)]) 108 rfl rfl (.inr ⟨tk3, rfl⟩) rfl rfl rfl rfl rfl ?_
          refine VO.kp [110, 122, 111, 108, 2106, 2104, 116, 117, 115, 114, 102, 0] [(110, m47), (122, mone g21 (.cells [Value.int .i64 (((cDecode ((fRead (d0.drop at_.toNat)).1)).1).1), Value.int .i64 (((cDecode ((fRead (d0.drop at_.toNat)).1)).1).2.1), Value.slice q18_0_A2 ((((cDecode ((fRead (d0.drop at_.toNat)).1)).1).2.2).length) (q18_0_c2)].toArray 42 (0, 0))), (111, m48), (108, mone g7 (.cells [Value.int .i64 (((cDecode ((fRead (d0.drop at_.toNat)).1)).1).1)].toArray 3 (0, 0))), (2106, mone g5 (.cells [Value.slice A48 ((es ++ [(at_ + ((fRead (d0.drop ((at_).toNat))).2.1))]).length) (c48)].toArray 56 (0, 0))), (2104, mone g3 (.cells [Value.slice A47 ((l ++ [((cDecode ((fRead (d0.drop at_.toNat)).1)).1)]).length) (c47)].toArray 25 (0, 0))), (116, mr_), (117, mo_), (115, ml_), (114, mone D_ (.deferred (some []))), (102, mone g1 (.cells [Value.slice A0 (d0.length) (c0)].toArray 22 (0, 0))), (0, wm W)] ?_
          refine VO.k13 0 1 2 3 4 5 6 7 8 9 10 12 34 ?_
          refine outBN ?_
          exact ⟨rfl, fun W_ hW_ => ⟨⟨l ++ [((cDecode ((fRead (d0.drop at_.toNat)).1)).1)], A47, c47, m47, es ++ [(at_ + ((fRead (d0.drop ((at_).toNat))).2.1))], A48, c48, m48, ((cDecode ((fRead (d0.drop at_.toNat)).1)).1).1⟩, (hW_.gather (ids := [111, 110, 108, 2106, 2104]) 113 rfl).1.sub [117, 115, 113, 114, 102, 0], .inl ⟨rfl, by exact logAt_next hl (ok_of hat2 (by assumption) hep (by assumption)), by exact ends_next he hl (ok_of hat2 (by assumption) hep (by assumption)), by exact lastOr_snoc.symm, ho47, ho48, (hW_.gather (ids := [111, 110, 108, 2106, 2104]) 113 rfl).2⟩⟩⟩
  · -- D
    rintro D_ at_ ⟨l, l_A, l_c, l_m, es, es_A, es_c, es_m, ep⟩ ⟨hl, he, hep, h_l, h_es, hSep_⟩ hDn_
    replace hl : logAt d0 l at_ := hl
    replace he : es = endsC l := he
    replace hep : ep = lastOr 0 l := hep
    replace h_l : Ow (.sl TCommit) l_m [.slice l_A l.length l_c] l := h_l
    replace h_es : OwnL (.int .i64) es_m mnil (.slice es_A es.length es_c) es := h_es
    replace hSep_ : Seps (muns [es_m, l_m, mone g7 (.cells [Value.int .i64 (ep)].toArray 3 (0, 0)), mone g5 (.cells [Value.slice es_A (es.length) (es_c)].toArray 56 (0, 0)), mone g3 (.cells [Value.slice l_A (l.length) (l_c)].toArray 25 (0, 0))]) [es_m, l_m, mone g7 (.cells [Value.int .i64 (ep)].toArray 3 (0, 0)), mone g5 (.cells [Value.slice es_A (es.length) (es_c)].toArray 56 (0, 0)), mone g3 (.cells [Value.slice l_A (l.length) (l_c)].toArray 25 (0, 0))] := hSep_
    have l_l : l.length ≤ l_c := by obtain ⟨_, _, he, hl, _⟩ := h_l.slice; simp only [Value.slice.injEq] at he; omega
    have k_l : l_c ≤ 9223372036854775807 := by obtain ⟨_, _, he, _, hl⟩ := h_l.slice; simp only [Value.slice.injEq, maxLen] at he hl; omega
    have l_es : es.length ≤ es_c := by obtain ⟨_, _, he, hl, _⟩ := h_es.slice; simp only [Value.slice.injEq] at he; omega
    have k_es : es_c ≤ 9223372036854775807 := by obtain ⟨_, _, he, _, hl⟩ := h_es.slice; simp only [Value.slice.injEq, maxLen] at he hl; omega
    refine outBN ?_
    refine outN ?_
    refine VX.parts 113 [111, 110, 108, 106, 104] rfl hSep_ ?_
    show VX _ _ _ _ _ _ _ [(0, Value.slice A0 (d0.length) (c0)), (1, Value.pointer (some ⟨g1, 0, none⟩)), (2, Value.slice none (0) (0)), (3, Value.slice none (0) (0)), (4, Value.pointer (some ⟨g3, 0, none⟩)), (5, Value.pointer (some ⟨g5, 0, none⟩)), (6, Value.pointer (some ⟨g7, 0, none⟩)), (15, Value.func (.func 85) #[] ca9.toArray)] [(111, es_m), (110, l_m), (108, mone g7 (.cells [Value.int .i64 (ep)].toArray 3 (0, 0))), (106, mone g5 (.cells [Value.slice es_A (es.length) (es_c)].toArray 56 (0, 0))), (104, mone g3 (.cells [Value.slice l_A (l.length) (l_c)].toArray 25 (0, 0))), (114, mone D_ (.deferred (some []))), (102, mone g1 (.cells [Value.slice A0 (d0.length) (c0)].toArray 22 (0, 0))), (0, wm W)]
    refine VX.seq ?_
    refine VX.regD _ 3 [(0, true), (1, true), (2, true)] follows (by kernel_rfl) (fun _ h => h.sub [111, 110, 108, 106, 104, 114, 102, 0]) ?_
    refine VD.y rfl rfl (.inl rfl) (.ld1 104 rfl tk25 rfl (cellsAt_one rfl rfl)) ?_
    refine VD.y rfl rfl (.inl rfl) (.ld1 106 rfl tk56 rfl (cellsAt_one rfl rfl)) ?_
    refine VD.y rfl rfl (.inl rfl) (.as rfl) ?_
    refine VD.nil rfl ?_ rfl
    refine VO.as ?_
    refine VO.kp [111, 110, 108, 106, 104, 114, 102, 0] [(111, es_m), (110, l_m), (108, mone g7 (.cells [Value.int .i64 (ep)].toArray 3 (0, 0))), (106, mone g5 (.cells [Value.slice es_A (es.length) (es_c)].toArray 56 (0, 0))), (104, mone g3 (.cells [Value.slice l_A (l.length) (l_c)].toArray 25 (0, 0))), (114, mone D_ (.deferred (some []))), (102, mone g1 (.cells [Value.slice A0 (d0.length) (c0)].toArray 22 (0, 0))), (0, wm W)] ?_
    refine VO.k8 0 1 2 3 4 5 6 15 ?_
    refine outN ?_
    refine VX.ret ?_
    refine ⟨114, rfl, ?_⟩
    refine ⟨_, _, res_run (rs := [.tmp 2, .tmp 3]) rfl (.tmp rfl (.tmp rfl .nil)), fun W_ hI => out_of (l := [l_m, es_m]) hI [110, 111] rfl rfl (mle_refl _) (fun hS_ => ?_)⟩
    dsimp only [packV]
    have he0 : ((logF d0).1 : Ty.Den (.sl TCommit)) = l := by first | rfl | (first | exact hs | (rw [hs, he]; done) | exact congrArg Prod.fst (logAt_end hl (no_of0 hDn_.2.2)) | (rw [congrArg Prod.fst (logAt_end hl (no_of0 hDn_.2.2)), he]; done))
    have he1 : (endsC (logF d0).1 : Ty.Den (.sl (.int .i64))) = es := by first | rfl | (first | exact hs | (rw [hs, he]; done) | exact congrArg Prod.fst (logAt_end hl (no_of0 hDn_.2.2)) | (rw [congrArg Prod.fst (logAt_end hl (no_of0 hDn_.2.2)), he]; done))
    refine ⟨Value.slice l_A (l.length) (l_c), Value.slice es_A (es.length) (es_c), muns [l_m], muns [es_m], ?_, ?_, ?_, ?_⟩
    rotate_left
    · exact Seps.grp (ls := [[l_m], [es_m]]) hS_
    · rw [he0]; exact (Ow.up h_l ((Seps.self hS_ (List.Sublist.cons_cons _ (List.Sublist.cons _ List.Sublist.slnil))).1 _ (.head _)))
    · rw [he1]; exact (Ow.up (OwnL.ow h_es rfl) ((Seps.self hS_ (List.Sublist.cons _ (List.Sublist.cons_cons _ List.Sublist.slnil))).1 _ (.head _)))
    all_goals (first | rfl | (simp [*]; done))
  · -- X
    rintro D_ _ ⟨l, l_A, l_c, l_m, es, es_A, es_c, es_m, ep⟩ ⟨rfl, hs, he, h_l, h_es, hSep_⟩ _
    replace hs : (logF d0).1 = l := hs
    replace he : es = endsC l := he
    replace h_l : Ow (.sl TCommit) l_m [.slice l_A l.length l_c] l := h_l
    replace h_es : OwnL (.int .i64) es_m mnil (.slice es_A es.length es_c) es := h_es
    replace hSep_ : Seps (muns [es_m, l_m, mone g7 (.cells [Value.int .i64 (ep)].toArray 3 (0, 0)), mone g5 (.cells [Value.slice es_A (es.length) (es_c)].toArray 56 (0, 0)), mone g3 (.cells [Value.slice l_A (l.length) (l_c)].toArray 25 (0, 0))]) [es_m, l_m, mone g7 (.cells [Value.int .i64 (ep)].toArray 3 (0, 0)), mone g5 (.cells [Value.slice es_A (es.length) (es_c)].toArray 56 (0, 0)), mone g3 (.cells [Value.slice l_A (l.length) (l_c)].toArray 25 (0, 0))] := hSep_
    have l_l : l.length ≤ l_c := by obtain ⟨_, _, he, hl, _⟩ := h_l.slice; simp only [Value.slice.injEq] at he; omega
    have k_l : l_c ≤ 9223372036854775807 := by obtain ⟨_, _, he, _, hl⟩ := h_l.slice; simp only [Value.slice.injEq, maxLen] at he hl; omega
    have l_es : es.length ≤ es_c := by obtain ⟨_, _, he, hl, _⟩ := h_es.slice; simp only [Value.slice.injEq] at he; omega
    have k_es : es_c ≤ 9223372036854775807 := by obtain ⟨_, _, he, _, hl⟩ := h_es.slice; simp only [Value.slice.injEq, maxLen] at he hl; omega
    refine outBB ?_
    refine outN ?_
    refine VX.parts 113 [111, 110, 108, 106, 104] rfl hSep_ ?_
    show VX _ _ _ _ _ _ _ [(0, Value.slice A0 (d0.length) (c0)), (1, Value.pointer (some ⟨g1, 0, none⟩)), (2, Value.slice none (0) (0)), (3, Value.slice none (0) (0)), (4, Value.pointer (some ⟨g3, 0, none⟩)), (5, Value.pointer (some ⟨g5, 0, none⟩)), (6, Value.pointer (some ⟨g7, 0, none⟩)), (15, Value.func (.func 85) #[] ca9.toArray)] [(111, es_m), (110, l_m), (108, mone g7 (.cells [Value.int .i64 (ep)].toArray 3 (0, 0))), (106, mone g5 (.cells [Value.slice es_A (es.length) (es_c)].toArray 56 (0, 0))), (104, mone g3 (.cells [Value.slice l_A (l.length) (l_c)].toArray 25 (0, 0))), (114, mone D_ (.deferred (some []))), (102, mone g1 (.cells [Value.slice A0 (d0.length) (c0)].toArray 22 (0, 0))), (0, wm W)]
    refine VX.seq ?_
    refine VX.regD _ 3 [(0, true), (1, true), (2, true)] follows (by kernel_rfl) (fun _ h => h.sub [111, 110, 108, 106, 104, 114, 102, 0]) ?_
    refine VD.y rfl rfl (.inl rfl) (.ld1 104 rfl tk25 rfl (cellsAt_one rfl rfl)) ?_
    refine VD.y rfl rfl (.inl rfl) (.ld1 106 rfl tk56 rfl (cellsAt_one rfl rfl)) ?_
    refine VD.y rfl rfl (.inl rfl) (.as rfl) ?_
    refine VD.nil rfl ?_ rfl
    refine VO.as ?_
    refine VO.kp [111, 110, 108, 106, 104, 114, 102, 0] [(111, es_m), (110, l_m), (108, mone g7 (.cells [Value.int .i64 (ep)].toArray 3 (0, 0))), (106, mone g5 (.cells [Value.slice es_A (es.length) (es_c)].toArray 56 (0, 0))), (104, mone g3 (.cells [Value.slice l_A (l.length) (l_c)].toArray 25 (0, 0))), (114, mone D_ (.deferred (some []))), (102, mone g1 (.cells [Value.slice A0 (d0.length) (c0)].toArray 22 (0, 0))), (0, wm W)] ?_
    refine VO.k8 0 1 2 3 4 5 6 15 ?_
    refine outN ?_
    refine VX.ret ?_
    refine ⟨114, rfl, ?_⟩
    refine ⟨_, _, res_run (rs := [.tmp 2, .tmp 3]) rfl (.tmp rfl (.tmp rfl .nil)), fun W_ hI => out_of (l := [l_m, es_m]) hI [110, 111] rfl rfl (mle_refl _) (fun hS_ => ?_)⟩
    dsimp only [packV]
    have he0 : ((logF d0).1 : Ty.Den (.sl TCommit)) = l := by first | rfl | (first | exact hs | (rw [hs, he]; done) | exact congrArg Prod.fst (logAt_end hl (no_of0 hDn_.2.2)) | (rw [congrArg Prod.fst (logAt_end hl (no_of0 hDn_.2.2)), he]; done))
    have he1 : (endsC (logF d0).1 : Ty.Den (.sl (.int .i64))) = es := by first | rfl | (first | exact hs | (rw [hs, he]; done) | exact congrArg Prod.fst (logAt_end hl (no_of0 hDn_.2.2)) | (rw [congrArg Prod.fst (logAt_end hl (no_of0 hDn_.2.2)), he]; done))
    refine ⟨Value.slice l_A (l.length) (l_c), Value.slice es_A (es.length) (es_c), muns [l_m], muns [es_m], ?_, ?_, ?_, ?_⟩
    rotate_left
    · exact Seps.grp (ls := [[l_m], [es_m]]) hS_
    · rw [he0]; exact (Ow.up h_l ((Seps.self hS_ (List.Sublist.cons_cons _ (List.Sublist.cons _ List.Sublist.slnil))).1 _ (.head _)))
    · rw [he1]; exact (Ow.up (OwnL.ow h_es rfl) ((Seps.self hS_ (List.Sublist.cons _ (List.Sublist.cons_cons _ List.Sublist.slnil))).1 _ (.head _)))
    all_goals (first | rfl | (simp [*]; done))
end
end Go.Proofs.Ytdoamgdanlnlfaa
