/- Part 3 of the proof of LOrphanNames: what it needs of the library, the walks and the plain laws. Conditions: those named in each theorem. -/
import Derived.Test.YtbjkfnnabnacfaaLOrphanNamesM2
namespace Go.Proofs.Ytbjkfnnabnacfaa
section
set_option linter.unusedVariables false
set_option linter.unusedSimpArgs false
set_option maxRecDepth 4000
theorem fnOk112 : fnOk Try.prog 112 = true := by kernel_rfl
theorem fnOk88 : fnOk Try.prog 88 = true := by kernel_rfl
theorem cEncode_ok_ (W : World) {v0 : List Value} {d0 : DCommit} (h0 : Rd TCommit (wm W) v0 d0) : CallR Try.prog 56 [.agg v0.toArray] W (mnil) (fun v m' => ∃ (s0 : Value), v = .tuple #[s0, .int .i64 ((cEncode d0).2)] ∧ Ow (.sl .byte) m' [s0] ((cEncode d0).1)) := by
  obtain ⟨p0_A2, p0_c2, rfl, p0_0, p0_1, p0_2⟩ := open_Commit (x0 := d0.1) (x1 := d0.2.1) (x2 := d0.2.2) h0
  simp only [inK] at p0_0
  simp only [inK] at p0_1
  have p0_r2 := Rd.room p0_2
  refine CallR.ofA (n := 23) Try.func56 rfl rfl rfl ?_
  refine VC.rs ?_
  refine VO.box (cs := [Value.int .i64 (d0.1), Value.int .i64 (d0.2.1), Value.slice p0_A2 (d0.2.2.length) (p0_c2)]) 102 rfl rfl rfl (fun g1 => ?_)
  refine VO.as ?_
  refine VO.as ?_
  refine VO.k4 0 1 2 3 ?_
  refine VC.seq ?_
  refine VC.rs ?_
  refine VO.y rfl (.ldA 102 rfl tk32 rfl (cellsAt_one rfl rfl)) ?_
  refine VO.callN 103 rfl fnOk86 rfl (fun W hW => cCheck_ok_ W (Rd.mono h0 (hW.at (i := 0) rfl))) (fun v3 m3 hv3 => ?_)
  subst hv3
  have hfa4 := cCheck_range d0
  refine VO.as ?_
  refine VO.k5 0 1 2 3 4 ?_
  refine VC.rs ?_
  refine VO.mv ?_
  refine VO.y rfl (.neq rfl rfl) ?_
  refine VO.keep [102, 0] [(102, mone g1 (.cells [Value.int .i64 (d0.1), Value.int .i64 (d0.2.1), Value.slice p0_A2 (d0.2.2.length) (p0_c2)].toArray 32 (0, 0))), (0, wm W)] (by kernel_rfl) ?_
  refine VO.k6 0 1 2 3 4 8 ?_
  refine VC.cond rfl (fun hc5 => ?_) (fun hc5 => ?_)
  · -- T
    refine VC.rs ?_
    refine VO.mv ?_
    refine VO.as ?_
    refine VO.as ?_
    refine VO.k6 0 1 2 3 4 8 ?_
    refine VC.ret ?_
    refine outR ?_
    refine ⟨_, _, res_run (rs := [.tmp 2, .tmp 3]) rfl (.tmp rfl (.tmp rfl .nil)), fun W_ hI => out_of (l := []) hI [] rfl rfl (mle_refl _) (fun hS_ => ?_)⟩
    dsimp only [packV]
    have he0 : ((cEncode d0).1 : Ty.Den (.sl .byte)) = [] := by first | rfl | (first | (rw [cEncode_bad (by assumption)]; done) | (rw [cEncode_good (by assumption)]; done))
    refine ⟨Value.slice none (0) (0), ?_, ?_⟩
    rotate_left
    · rw [he0]; exact (Ow.nil _ _)
    all_goals (first | rfl | (first | (rw [cEncode_bad (by assumption)] <;> rfl) | (rw [cEncode_good (by assumption)] <;> rfl)))
  · -- F
    refine VC.skip ?_
    refine outN ?_
    refine VC.seq ?_
    refine VC.regD _ 13 [(0, true), (1, true), (2, true), (4, true), (5, true), (6, true), (8, true), (9, true), (3, false), (7, false), (10, false), (11, true), (12, true)] follows (by kernel_rfl) (fun _ h => h.sub [102, 0]) ?_
    refine VD.y rfl rfl (.inl rfl) (.fa rfl tst32 rfl) ?_
    refine VD.y rfl rfl (.inl rfl) (.ld1 102 rfl tk3 rfl (cellsAt_one rfl rfl)) ?_
    refine VD.y rfl rfl (.inl rfl) (.cvI (c := ((d0.1).toNat : Int)) rfl ⟨_, Try.underlying3⟩ Try.underlying82 (by rw [IntWalk.u64_in _ (by first | omega | (simp only [List.length_append, List.length_nil, List.length_cons, List.length_take, List.length_drop] at *; omega) | (have h_ := cCheck_zero (Decidable.not_not.1 ‹¬ ¬ cCheck d0 = 0›); omega) | (have h_ := cCheck_zero (Decidable.not_not.1 ‹¬ ¬ cCheck d0 = 0›); simp only [List.length_append, List.length_nil, List.length_cons] at *; omega))]; first | omega | (first | omega | (simp only [List.length_append, List.length_nil, List.length_cons, List.length_take, List.length_drop] at *; omega) | (have h_ := cCheck_zero (Decidable.not_not.1 ‹¬ ¬ cCheck d0 = 0›); omega) | (have h_ := cCheck_zero (Decidable.not_not.1 ‹¬ ¬ cCheck d0 = 0›); simp only [List.length_append, List.length_nil, List.length_cons] at *; omega)))) ?_
    refine VD.y rfl rfl (.inl rfl) (.fa rfl tst32 rfl) ?_
    refine VD.y rfl rfl (.inl rfl) (.ld1 102 rfl tk3 rfl (cellsAt_one rfl rfl)) ?_
    refine VD.y rfl rfl (.inl rfl) (.cvI (c := ((d0.2.1).toNat : Int)) rfl ⟨_, Try.underlying3⟩ Try.underlying82 (by rw [IntWalk.u64_in _ (by first | omega | (simp only [List.length_append, List.length_nil, List.length_cons, List.length_take, List.length_drop] at *; omega) | (have h_ := cCheck_zero (Decidable.not_not.1 ‹¬ ¬ cCheck d0 = 0›); omega) | (have h_ := cCheck_zero (Decidable.not_not.1 ‹¬ ¬ cCheck d0 = 0›); simp only [List.length_append, List.length_nil, List.length_cons] at *; omega))]; first | omega | (first | omega | (simp only [List.length_append, List.length_nil, List.length_cons, List.length_take, List.length_drop] at *; omega) | (have h_ := cCheck_zero (Decidable.not_not.1 ‹¬ ¬ cCheck d0 = 0›); omega) | (have h_ := cCheck_zero (Decidable.not_not.1 ‹¬ ¬ cCheck d0 = 0›); simp only [List.length_append, List.length_nil, List.length_cons] at *; omega)))) ?_
    refine VD.y rfl rfl (.inl rfl) (.fa rfl tst32 rfl) ?_
    refine VD.y rfl rfl (.inl rfl) (.ld1 102 rfl tk30 rfl (cellsAt_one rfl rfl)) ?_
    refine VD.callN 106 rfl rfl (.inl rfl) fnOk54 rfl (fun _ h => h.sub [102, 0]) (fun W hW => vAppend_ok W (Rd.nil _ _ none 0 (Nat.zero_le _)) ((d0.1).toNat) (by first | omega | (simp only [List.length_append, List.length_nil, List.length_cons, List.length_take, List.length_drop] at *; omega) | (have h_ := cCheck_zero (Decidable.not_not.1 ‹¬ ¬ cCheck d0 = 0›); omega) | (have h_ := cCheck_zero (Decidable.not_not.1 ‹¬ ¬ cCheck d0 = 0›); simp only [List.length_append, List.length_nil, List.length_cons] at *; omega)) (by first | omega | (simp only [List.length_append, List.length_nil, List.length_cons, List.length_take, List.length_drop] at *; omega) | (have h_ := cCheck_zero (Decidable.not_not.1 ‹¬ ¬ cCheck d0 = 0›); omega) | (have h_ := cCheck_zero (Decidable.not_not.1 ‹¬ ¬ cCheck d0 = 0›); simp only [List.length_append, List.length_nil, List.length_cons] at *; omega))) (fun v6 m6 hv6 => ?_)
    obtain ⟨s6_0, rfl, f6_0⟩ := hv6
    have hfa7 := venc_len (x := ((d0.1).toNat)) (by first | omega | exact or64 (by assumption) _)
    simp only [List.nil_append] at f6_0
    obtain ⟨A6_0, c6_0, eq6_0, l6_0, k6_0⟩ := f6_0.slice
    subst eq6_0
    simp only [maxLen] at k6_0
    refine VD.callN 108 rfl rfl (.inl rfl) fnOk54 rfl (fun _ h => h.sub [102, 0]) (fun W hW => vAppend_ok W (OwnL.rd (Ow.ownl f6_0 rfl mnil) (hW.at (i := 106) rfl) (mle_nil _)) ((d0.2.1).toNat) (by first | omega | (simp only [List.length_append, List.length_nil, List.length_cons, List.length_take, List.length_drop] at *; omega) | (have h_ := cCheck_zero (Decidable.not_not.1 ‹¬ ¬ cCheck d0 = 0›); omega) | (have h_ := cCheck_zero (Decidable.not_not.1 ‹¬ ¬ cCheck d0 = 0›); simp only [List.length_append, List.length_nil, List.length_cons] at *; omega)) (by first | omega | (simp only [List.length_append, List.length_nil, List.length_cons, List.length_take, List.length_drop] at *; omega) | (have h_ := cCheck_zero (Decidable.not_not.1 ‹¬ ¬ cCheck d0 = 0›); omega) | (have h_ := cCheck_zero (Decidable.not_not.1 ‹¬ ¬ cCheck d0 = 0›); simp only [List.length_append, List.length_nil, List.length_cons] at *; omega))) (fun v8 m8 hv8 => ?_)
    obtain ⟨s8_0, rfl, f8_0⟩ := hv8
    have hfa9 := venc_len (x := ((d0.2.1).toNat)) (by first | omega | exact or64 (by assumption) _)
    obtain ⟨A8_0, c8_0, eq8_0, l8_0, k8_0⟩ := f8_0.slice
    subst eq8_0
    simp only [maxLen] at k8_0
    refine VD.callN 110 rfl rfl (.inl rfl) fnOk88 rfl (fun _ h => h.sub [102, 0]) (fun W hW => bAppend_ok W (OwnL.rd (Ow.ownl f8_0 rfl mnil) (hW.at (i := 108) rfl) (mle_nil _)) (Rd.mono p0_2 (hW.at (i := 0) rfl)) (by first | omega | (simp only [List.length_append, List.length_nil, List.length_cons, List.length_take, List.length_drop] at *; omega) | (have h_ := cCheck_zero (Decidable.not_not.1 ‹¬ ¬ cCheck d0 = 0›); omega) | (have h_ := cCheck_zero (Decidable.not_not.1 ‹¬ ¬ cCheck d0 = 0›); simp only [List.length_append, List.length_nil, List.length_cons] at *; omega))) (fun v10 m10 hv10 => ?_)
    obtain ⟨s10_0, rfl, f10_0⟩ := hv10
    have hfa11 := bAppend_len ((venc ((d0.1).toNat)) ++ venc ((d0.2.1).toNat)) d0.2.2
    obtain ⟨A10_0, c10_0, eq10_0, l10_0, k10_0⟩ := f10_0.slice
    subst eq10_0
    simp only [maxLen] at k10_0
    refine VD.y rfl rfl (.inl rfl) (.ext rfl rfl) ?_
    refine VD.y rfl rfl (.inl rfl) (.ext rfl rfl) ?_
    refine VD.nil rfl ?_ rfl
    refine VO.as ?_
    refine VO.as ?_
    refine VO.k6 0 1 2 3 4 8 ?_
    refine outN ?_
    refine VC.ret ?_
    refine ⟨_, _, res_run (rs := [.tmp 2, .tmp 3]) rfl (.tmp rfl (.tmp rfl .nil)), fun W_ hI => out_of (l := [m10]) hI [110] rfl rfl (mle_refl _) (fun hS_ => ?_)⟩
    dsimp only [packV]
    have he0 : ((cEncode d0).1 : Ty.Den (.sl .byte)) = (bAppend ((venc ((d0.1).toNat)) ++ venc ((d0.2.1).toNat)) d0.2.2).1 := by first | rfl | (first | (rw [cEncode_bad (by assumption)]; done) | (rw [cEncode_good (by assumption)]; done))
    refine ⟨Value.slice A10_0 (((bAppend ((venc ((d0.1).toNat)) ++ venc ((d0.2.1).toNat)) d0.2.2).1).length) (c10_0), ?_, ?_⟩
    rotate_left
    · rw [he0]; exact (Ow.up (OwnL.ow (Ow.ownl f10_0 rfl mnil) rfl) (hS_.1 _ (.head _)))
    all_goals (first | rfl | (first | (rw [cEncode_bad (by assumption)] <;> rfl) | (rw [cEncode_good (by assumption)] <;> rfl)))
theorem cDecode_ok_ (W : World) {v0 : Value} {d0 : List UInt8} (h0 : Rd (.sl .byte) (wm W) [v0] d0) : CallR Try.prog 93 [v0] W (mnil) (fun v m' => ∃ (s0 : List Value), v = .tuple #[.agg s0.toArray, .int .i64 ((cDecode d0).2)] ∧ Ow TCommit m' s0 ((cDecode d0).1)) := by
  obtain ⟨A0, c0, rfl, l0, k0⟩ := h0.slice
  simp only [maxLen] at k0
  refine CallR.ofA (n := 65) Try.func93 rfl rfl rfl ?_
  refine VC.rs ?_
  refine VO.alloc 102 rfl tz32 (fun g1 => ?_)
  refine VO.as ?_
  refine VO.k3 0 2 3 ?_
  refine VC.rs ?_
  refine VO.mv ?_
  refine VO.callN 103 rfl fnOk111 rfl (fun W hW => vSmall_ok W (Rd.mono h0 (hW.at (i := 0) rfl)) 1048576 bdk) (fun v3 m3 hv3 => ?_)
  subst hv3
  have hfa4 := s_bounds d0 1048576 (by omega)
  refine VO.mv ?_
  refine VO.y rfl (.ext rfl rfl) ?_
  refine VO.y rfl (.ext rfl rfl) ?_
  refine VO.y rfl (.ext rfl rfl) ?_
  refine VO.as ?_
  refine VO.as ?_
  refine VO.as ?_
  refine VO.k6 0 2 3 4 5 6 ?_
  refine VC.seq ?_
  refine VC.rs ?_
  refine VO.mv ?_
  refine VO.y rfl (.neq rfl rfl) ?_
  refine VO.keep [102, 0] [(102, mone g1 (.cells [Value.int .i64 (0), Value.int .i64 (0), Value.slice none (0) (0)].toArray 32 (0, 0))), (0, wm W)] (by kernel_rfl) ?_
  refine VO.k7 0 2 3 4 5 6 19 ?_
  refine VC.cond rfl (fun hc5 => ?_) (fun hc5 => ?_)
  · -- T
    refine VC.rs ?_
    refine VO.y rfl (.bst (cs := [Value.int .i64 (0), Value.int .i64 (0), Value.slice none (0) (0)]) rfl tst32 tz32 rfl) ?_
    refine VO.store (k := 3) (c' := [Value.int .i64 (0), Value.int .i64 (0), Value.slice none (0) (0)]) 102 rfl rfl (.inl tk32) rfl rfl rfl rfl rfl ?_
    refine VO.as ?_
    refine VO.k7 0 2 3 4 5 6 19 ?_
    refine VC.ret ?_
    refine outR ?_
    refine ⟨_, _, res_run (rs := [.cell 2 32, .tmp 3]) rfl (.agg 102 rfl tk32 rfl ⟨_, _, _, mone_self _ _, Nat.le_of_ble_eq_true rfl, rfl⟩ (.tmp rfl .nil)), fun W_ hI => out_of (l := []) hI [] rfl rfl (mle_refl _) (fun hS_ => ?_)⟩
    dsimp only [packV]
    have he0 : ((cDecode d0).1 : Ty.Den TCommit) = (0, 0, []) := by first | rfl | (first | (rw [cDecode_e1 (by assumption)] <;> rfl) | (rw [cDecode_e2 (by assumption)] <;> rfl) | (rw [cDecode_e3 (by assumption)] <;> rfl) | (rw [cDecode_e4 (by assumption)] <;> rfl) | (rw [cDecode_e5 (by assumption)] <;> rfl) | (rw [cDecode_ok (by assumption) (by assumption) (by assumption) (by assumption) (by assumption)] <;> rfl))
    refine ⟨[Value.int .i64 (0), Value.int .i64 (0), Value.slice none (0) (0)], ?_, ?_⟩
    rotate_left
    · rw [he0]; exact (mkO_Commit 0 0 [] (Seps.nilAt 0 hS_) bdk bdk (Ow.nil _ _))
    all_goals (first | rfl | (first | (rw [cDecode_e1 (by assumption)] <;> rfl) | (rw [cDecode_e2 (by assumption)] <;> rfl) | (rw [cDecode_e3 (by assumption)] <;> rfl) | (rw [cDecode_e4 (by assumption)] <;> rfl) | (rw [cDecode_e5 (by assumption)] <;> rfl) | (rw [cDecode_ok (by assumption) (by assumption) (by assumption) (by assumption) (by assumption)] <;> rfl)))
  · -- F
    refine VC.skip ?_
    refine outN ?_
    refine VC.rs ?_
    refine VO.mv ?_
    refine VO.mv ?_
    obtain ⟨A6, hA6, hs6⟩ := h0.drop 1 (sN d0 1048576) rfl bd
    refine VO.y rfl (.slLI (sN d0 1048576) A6 rfl rfl tsl25 rfl hA6 bd) ?_
    refine VO.callN 107 rfl fnOk111 rfl (fun W hW => vSmall_ok W (Rd.mono hs6 (hW.at (i := 0) rfl)) 1048576 bdk) (fun v7 m7 hv7 => ?_)
    subst hv7
    have hfa8 := s_bounds (d0.drop (sN d0 1048576)) 1048576 (by omega)
    refine VO.mv ?_
    refine VO.y rfl (.ext rfl rfl) ?_
    refine VO.y rfl (.ext rfl rfl) ?_
    refine VO.y rfl (.ext rfl rfl) ?_
    refine VO.as ?_
    refine VO.as ?_
    refine VO.as ?_
    refine VO.k9 0 2 3 4 5 6 7 8 19 ?_
    refine VC.seq ?_
    refine VC.rs ?_
    refine VO.mv ?_
    refine VO.y rfl (.neq rfl rfl) ?_
    refine VO.k10 0 2 3 4 5 6 7 8 19 30 ?_
    refine VC.cond rfl (fun hc9 => ?_) (fun hc9 => ?_)
    · -- FT
      refine VC.rs ?_
      refine VO.y rfl (.bst (cs := [Value.int .i64 (0), Value.int .i64 (0), Value.slice none (0) (0)]) rfl tst32 tz32 rfl) ?_
      refine VO.store (k := 3) (c' := [Value.int .i64 (0), Value.int .i64 (0), Value.slice none (0) (0)]) 102 rfl rfl (.inl tk32) rfl rfl rfl rfl rfl ?_
      refine VO.as ?_
      refine VO.keep [102, 0] [(102, mone g1 (.cells [Value.int .i64 (0), Value.int .i64 (0), Value.slice none (0) (0)].toArray 32 (0, 0))), (0, wm W)] (by kernel_rfl) ?_
      refine VO.k10 0 2 3 4 5 6 7 8 19 30 ?_
      refine VC.ret ?_
      refine outR ?_
      refine ⟨_, _, res_run (rs := [.cell 2 32, .tmp 3]) rfl (.agg 102 rfl tk32 rfl ⟨_, _, _, mone_self _ _, Nat.le_of_ble_eq_true rfl, rfl⟩ (.tmp rfl .nil)), fun W_ hI => out_of (l := []) hI [] rfl rfl (mle_refl _) (fun hS_ => ?_)⟩
      dsimp only [packV]
      have he0 : ((cDecode d0).1 : Ty.Den TCommit) = (0, 0, []) := by first | rfl | (first | (rw [cDecode_e1 (by assumption)] <;> rfl) | (rw [cDecode_e2 (by assumption)] <;> rfl) | (rw [cDecode_e3 (by assumption)] <;> rfl) | (rw [cDecode_e4 (by assumption)] <;> rfl) | (rw [cDecode_e5 (by assumption)] <;> rfl) | (rw [cDecode_ok (by assumption) (by assumption) (by assumption) (by assumption) (by assumption)] <;> rfl))
      refine ⟨[Value.int .i64 (0), Value.int .i64 (0), Value.slice none (0) (0)], ?_, ?_⟩
      rotate_left
      · rw [he0]; exact (mkO_Commit 0 0 [] (Seps.nilAt 0 hS_) bdk bdk (Ow.nil _ _))
      all_goals (first | rfl | (first | (rw [cDecode_e1 (by assumption)] <;> rfl) | (rw [cDecode_e2 (by assumption)] <;> rfl) | (rw [cDecode_e3 (by assumption)] <;> rfl) | (rw [cDecode_e4 (by assumption)] <;> rfl) | (rw [cDecode_e5 (by assumption)] <;> rfl) | (rw [cDecode_ok (by assumption) (by assumption) (by assumption) (by assumption) (by assumption)] <;> rfl)))
    · -- FF
      refine VC.skip ?_
      refine outN ?_
      refine VC.rs ?_
      refine VO.mv ?_
      refine VO.mv ?_
      refine VO.mv ?_
      refine VO.y rfl (.add (c := ((sN d0 1048576 + (sN (d0.drop (sN d0 1048576)) 1048576) : Nat) : Int)) rfl rfl (by omega) ⟨bd, bd⟩) ?_
      obtain ⟨A10, hA10, hs10⟩ := h0.drop 1 (sN d0 1048576 + (sN (d0.drop (sN d0 1048576)) 1048576)) rfl bd
      refine VO.y rfl (.slLI (sN d0 1048576 + (sN (d0.drop (sN d0 1048576)) 1048576)) A10 rfl rfl tsl25 rfl hA10 bd) ?_
      refine VO.callN 111 rfl fnOk112 rfl (fun W hW => bRead_ok W (Rd.mono hs10 (hW.at (i := 0) rfl))) (fun v11 m11 hv11 => ?_)
      obtain ⟨s11_0, rfl, f11_0⟩ := hv11
      have hfa12 := bRead_fits (d0.drop (sN d0 1048576 + (sN (d0.drop (sN d0 1048576)) 1048576)))
      obtain ⟨A11_0, c11_0, eq11_0, l11_0, k11_0⟩ := f11_0.slice
      subst eq11_0
      simp only [maxLen] at k11_0
      refine VO.mv ?_
      refine VO.y rfl (.ext rfl rfl) ?_
      refine VO.y rfl (.ext rfl rfl) ?_
      refine VO.y rfl (.ext rfl rfl) ?_
      refine VO.as ?_
      refine VO.as ?_
      refine VO.as ?_
      refine VO.keep [111, 102, 0] [(111, m11), (102, mone g1 (.cells [Value.int .i64 (0), Value.int .i64 (0), Value.slice none (0) (0)].toArray 32 (0, 0))), (0, wm W)] (by kernel_rfl) ?_
      refine VO.k12 0 2 3 4 5 6 7 8 9 10 19 30 ?_
      refine VC.rs ?_
      refine VO.mv ?_
      refine VO.mv ?_
      refine VO.mv ?_
      refine VO.y rfl (.bst (cs := [Value.int .i64 (((sX d0 1048576 : Nat) : Int)), Value.int .i64 (((sX (d0.drop (sN d0 1048576)) 1048576 : Nat) : Int)), Value.slice A11_0 (((bRead (d0.drop (sN d0 1048576 + (sN (d0.drop (sN d0 1048576)) 1048576)))).1).length) (c11_0)]) rfl tst32 tz32 rfl) ?_
      refine VO.alloc 114 rfl tz32 (fun g13 => ?_)
      refine VO.store (k := 3) (c' := [Value.int .i64 (((sX d0 1048576 : Nat) : Int)), Value.int .i64 (((sX (d0.drop (sN d0 1048576)) 1048576 : Nat) : Int)), Value.slice A11_0 (((bRead (d0.drop (sN d0 1048576 + (sN (d0.drop (sN d0 1048576)) 1048576)))).1).length) (c11_0)]) 114 rfl rfl (.inl tk32) rfl rfl rfl rfl rfl ?_
      refine VO.k13 0 2 3 4 5 6 7 8 9 10 11 19 30 ?_
      refine VC.seq ?_
      refine VC.rs ?_
      refine VO.mv ?_
      refine VO.y rfl (.neq rfl rfl) ?_
      refine VO.mv ?_
      refine VO.dec (t := 48) rfl (fun hc15 => ?_) (fun hc15 => ?_)
      · -- FFT
        refine VO.gN ?_
        refine VO.gN ?_
        refine VO.gN ?_
        refine VO.gN ?_
        refine VO.gN ?_
        refine VO.gN ?_
        refine VO.gN ?_
        refine VO.gN ?_
        refine VO.y rfl (.pT rfl rfl) ?_
        refine VO.mv ?_
        refine VO.gN ?_
        refine VO.gN ?_
        refine VO.gN ?_
        refine VO.y rfl (.pT rfl rfl) ?_
        refine VO.k14 0 2 3 4 5 6 7 8 9 10 11 19 30 62 ?_
        refine VC.condT rfl ?_
        refine VC.rs ?_
        refine VO.y rfl (.bst (cs := [Value.int .i64 (0), Value.int .i64 (0), Value.slice none (0) (0)]) rfl tst32 tz32 rfl) ?_
        refine VO.store (k := 3) (c' := [Value.int .i64 (0), Value.int .i64 (0), Value.slice none (0) (0)]) 102 rfl rfl (.inl tk32) rfl rfl rfl rfl rfl ?_
        refine VO.as ?_
        refine VO.keep [114, 111, 102, 0] [(114, mone g13 (.cells [Value.int .i64 (((sX d0 1048576 : Nat) : Int)), Value.int .i64 (((sX (d0.drop (sN d0 1048576)) 1048576 : Nat) : Int)), Value.slice A11_0 (((bRead (d0.drop (sN d0 1048576 + (sN (d0.drop (sN d0 1048576)) 1048576)))).1).length) (c11_0)].toArray 32 (0, 0))), (111, m11), (102, mone g1 (.cells [Value.int .i64 (0), Value.int .i64 (0), Value.slice none (0) (0)].toArray 32 (0, 0))), (0, wm W)] (by kernel_rfl) ?_
        refine VO.k14 0 2 3 4 5 6 7 8 9 10 11 19 30 62 ?_
        refine VC.ret ?_
        refine outR ?_
        refine ⟨_, _, res_run (rs := [.cell 2 32, .tmp 3]) rfl (.agg 102 rfl tk32 rfl ⟨_, _, _, mone_self _ _, Nat.le_of_ble_eq_true rfl, rfl⟩ (.tmp rfl .nil)), fun W_ hI => out_of (l := []) hI [] rfl rfl (mle_refl _) (fun hS_ => ?_)⟩
        dsimp only [packV]
        have he0 : ((cDecode d0).1 : Ty.Den TCommit) = (0, 0, []) := by first | rfl | (first | (rw [cDecode_e1 (by assumption)] <;> rfl) | (rw [cDecode_e2 (by assumption)] <;> rfl) | (rw [cDecode_e3 (by assumption)] <;> rfl) | (rw [cDecode_e4 (by assumption)] <;> rfl) | (rw [cDecode_e5 (by assumption)] <;> rfl) | (rw [cDecode_ok (by assumption) (by assumption) (by assumption) (by assumption) (by assumption)] <;> rfl))
        refine ⟨[Value.int .i64 (0), Value.int .i64 (0), Value.slice none (0) (0)], ?_, ?_⟩
        rotate_left
        · rw [he0]; exact (mkO_Commit 0 0 [] (Seps.nilAt 0 hS_) bdk bdk (Ow.nil _ _))
        all_goals (first | rfl | (first | (rw [cDecode_e1 (by assumption)] <;> rfl) | (rw [cDecode_e2 (by assumption)] <;> rfl) | (rw [cDecode_e3 (by assumption)] <;> rfl) | (rw [cDecode_e4 (by assumption)] <;> rfl) | (rw [cDecode_e5 (by assumption)] <;> rfl) | (rw [cDecode_ok (by assumption) (by assumption) (by assumption) (by assumption) (by assumption)] <;> rfl)))
      · -- FFF
        refine VO.gy rfl ⟨_, rfl, rfl⟩ (.mv rfl) ?_
        refine VO.gy rfl ⟨_, rfl, rfl⟩ (.mv rfl) ?_
        refine VO.gy rfl ⟨_, rfl, rfl⟩ (.add (c := ((sN d0 1048576 + (sN (d0.drop (sN d0 1048576)) 1048576) : Nat) : Int)) rfl rfl (by omega) ⟨bd, bd⟩) ?_
        refine VO.gy rfl ⟨_, rfl, rfl⟩ (.mv rfl) ?_
        refine VO.gy rfl ⟨_, rfl, rfl⟩ (.add rfl rfl rfl ⟨bd, bd⟩) ?_
        refine VO.gy rfl ⟨_, rfl, rfl⟩ (.mv rfl) ?_
        refine VO.gy rfl ⟨_, rfl, rfl⟩ (.lenS rfl tsl25) ?_
        refine VO.gy rfl ⟨_, rfl, rfl⟩ (.neq rfl rfl) ?_
        refine VO.y rfl (.pF rfl rfl) ?_
        refine VO.mv ?_
        refine VO.dec (t := 58) rfl (fun hc16 => ?_) (fun hc16 => ?_)
        · -- FFFT
          refine VO.gN ?_
          refine VO.gN ?_
          refine VO.gN ?_
          refine VO.y rfl (.pT rfl rfl) ?_
          refine VO.k14 0 2 3 4 5 6 7 8 9 10 11 19 30 62 ?_
          refine VC.condT rfl ?_
          refine VC.rs ?_
          refine VO.y rfl (.bst (cs := [Value.int .i64 (0), Value.int .i64 (0), Value.slice none (0) (0)]) rfl tst32 tz32 rfl) ?_
          refine VO.store (k := 3) (c' := [Value.int .i64 (0), Value.int .i64 (0), Value.slice none (0) (0)]) 102 rfl rfl (.inl tk32) rfl rfl rfl rfl rfl ?_
          refine VO.as ?_
          refine VO.keep [114, 111, 102, 0] [(114, mone g13 (.cells [Value.int .i64 (((sX d0 1048576 : Nat) : Int)), Value.int .i64 (((sX (d0.drop (sN d0 1048576)) 1048576 : Nat) : Int)), Value.slice A11_0 (((bRead (d0.drop (sN d0 1048576 + (sN (d0.drop (sN d0 1048576)) 1048576)))).1).length) (c11_0)].toArray 32 (0, 0))), (111, m11), (102, mone g1 (.cells [Value.int .i64 (0), Value.int .i64 (0), Value.slice none (0) (0)].toArray 32 (0, 0))), (0, wm W)] (by kernel_rfl) ?_
          refine VO.k14 0 2 3 4 5 6 7 8 9 10 11 19 30 62 ?_
          refine VC.ret ?_
          refine outR ?_
          refine ⟨_, _, res_run (rs := [.cell 2 32, .tmp 3]) rfl (.agg 102 rfl tk32 rfl ⟨_, _, _, mone_self _ _, Nat.le_of_ble_eq_true rfl, rfl⟩ (.tmp rfl .nil)), fun W_ hI => out_of (l := []) hI [] rfl rfl (mle_refl _) (fun hS_ => ?_)⟩
          dsimp only [packV]
          have he0 : ((cDecode d0).1 : Ty.Den TCommit) = (0, 0, []) := by first | rfl | (first | (rw [cDecode_e1 (by assumption)] <;> rfl) | (rw [cDecode_e2 (by assumption)] <;> rfl) | (rw [cDecode_e3 (by assumption)] <;> rfl) | (rw [cDecode_e4 (by assumption)] <;> rfl) | (rw [cDecode_e5 (by assumption)] <;> rfl) | (rw [cDecode_ok (by assumption) (by assumption) (by assumption) (by assumption) (by assumption)] <;> rfl))
          refine ⟨[Value.int .i64 (0), Value.int .i64 (0), Value.slice none (0) (0)], ?_, ?_⟩
          rotate_left
          · rw [he0]; exact (mkO_Commit 0 0 [] (Seps.nilAt 0 hS_) bdk bdk (Ow.nil _ _))
          all_goals (first | rfl | (first | (rw [cDecode_e1 (by assumption)] <;> rfl) | (rw [cDecode_e2 (by assumption)] <;> rfl) | (rw [cDecode_e3 (by assumption)] <;> rfl) | (rw [cDecode_e4 (by assumption)] <;> rfl) | (rw [cDecode_e5 (by assumption)] <;> rfl) | (rw [cDecode_ok (by assumption) (by assumption) (by assumption) (by assumption) (by assumption)] <;> rfl)))
        · -- FFFF
          refine VO.gy rfl ⟨_, rfl, rfl⟩ (.ldA 114 rfl tk32 rfl (cellsAt_one rfl rfl)) ?_
          refine VO.gcallN 117 rfl ⟨_, rfl, rfl⟩ fnOk86 rfl (fun W hW => cCheck_ok_ W (mk_Commit (m := wm W) ((sX d0 1048576 : Nat) : Int) ((sX (d0.drop (sN d0 1048576)) 1048576 : Nat) : Int) ((bRead (d0.drop (sN d0 1048576 + (sN (d0.drop (sN d0 1048576)) 1048576)))).1) bdk bdk (OwnL.rd (Ow.ownl f11_0 rfl mnil) (hW.at (i := 111) rfl) (mle_nil _)))) (fun v17 m17 hv17 => ?_)
          try dsimp only at hv17
          subst hv17
          have hfa18 := cCheck_range (((sX d0 1048576 : Nat) : Int), ((sX (d0.drop (sN d0 1048576)) 1048576 : Nat) : Int), (bRead (d0.drop (sN d0 1048576 + (sN (d0.drop (sN d0 1048576)) 1048576)))).1)
          refine VO.gy rfl ⟨_, rfl, rfl⟩ (.neq rfl rfl) ?_
          refine VO.y rfl (.pF rfl rfl) ?_
          refine VO.k14 0 2 3 4 5 6 7 8 9 10 11 19 30 62 ?_
          refine VC.cond rfl (fun hc19 => ?_) (fun hc19 => ?_)
          · -- FFFFT
            refine VC.rs ?_
            refine VO.y rfl (.bst (cs := [Value.int .i64 (0), Value.int .i64 (0), Value.slice none (0) (0)]) rfl tst32 tz32 rfl) ?_
            refine VO.store (k := 3) (c' := [Value.int .i64 (0), Value.int .i64 (0), Value.slice none (0) (0)]) 102 rfl rfl (.inl tk32) rfl rfl rfl rfl rfl ?_
            refine VO.as ?_
            refine VO.keep [114, 111, 102, 0] [(114, mone g13 (.cells [Value.int .i64 (((sX d0 1048576 : Nat) : Int)), Value.int .i64 (((sX (d0.drop (sN d0 1048576)) 1048576 : Nat) : Int)), Value.slice A11_0 (((bRead (d0.drop (sN d0 1048576 + (sN (d0.drop (sN d0 1048576)) 1048576)))).1).length) (c11_0)].toArray 32 (0, 0))), (111, m11), (102, mone g1 (.cells [Value.int .i64 (0), Value.int .i64 (0), Value.slice none (0) (0)].toArray 32 (0, 0))), (0, wm W)] (by kernel_rfl) ?_
            refine VO.k14 0 2 3 4 5 6 7 8 9 10 11 19 30 62 ?_
            refine VC.ret ?_
            refine outR ?_
            refine ⟨_, _, res_run (rs := [.cell 2 32, .tmp 3]) rfl (.agg 102 rfl tk32 rfl ⟨_, _, _, mone_self _ _, Nat.le_of_ble_eq_true rfl, rfl⟩ (.tmp rfl .nil)), fun W_ hI => out_of (l := []) hI [] rfl rfl (mle_refl _) (fun hS_ => ?_)⟩
            dsimp only [packV]
            have he0 : ((cDecode d0).1 : Ty.Den TCommit) = (0, 0, []) := by first | rfl | (first | (rw [cDecode_e1 (by assumption)] <;> rfl) | (rw [cDecode_e2 (by assumption)] <;> rfl) | (rw [cDecode_e3 (by assumption)] <;> rfl) | (rw [cDecode_e4 (by assumption)] <;> rfl) | (rw [cDecode_e5 (by assumption)] <;> rfl) | (rw [cDecode_ok (by assumption) (by assumption) (by assumption) (by assumption) (by assumption)] <;> rfl))
            refine ⟨[Value.int .i64 (0), Value.int .i64 (0), Value.slice none (0) (0)], ?_, ?_⟩
            rotate_left
            · rw [he0]; exact (mkO_Commit 0 0 [] (Seps.nilAt 0 hS_) bdk bdk (Ow.nil _ _))
            all_goals (first | rfl | (first | (rw [cDecode_e1 (by assumption)] <;> rfl) | (rw [cDecode_e2 (by assumption)] <;> rfl) | (rw [cDecode_e3 (by assumption)] <;> rfl) | (rw [cDecode_e4 (by assumption)] <;> rfl) | (rw [cDecode_e5 (by assumption)] <;> rfl) | (rw [cDecode_ok (by assumption) (by assumption) (by assumption) (by assumption) (by assumption)] <;> rfl)))
          · -- FFFFF
            refine VC.skip ?_
            refine outN ?_
            refine VC.rs ?_
            refine VO.y rfl (.ldA 114 rfl tk32 rfl (cellsAt_one rfl rfl)) ?_
            refine VO.store (k := 3) (c' := [Value.int .i64 (((sX d0 1048576 : Nat) : Int)), Value.int .i64 (((sX (d0.drop (sN d0 1048576)) 1048576 : Nat) : Int)), Value.slice A11_0 (((bRead (d0.drop (sN d0 1048576 + (sN (d0.drop (sN d0 1048576)) 1048576)))).1).length) (c11_0)]) 102 rfl rfl (.inl tk32) rfl rfl rfl rfl rfl ?_
            refine VO.as ?_
            refine VO.keep [114, 111, 102, 0] [(114, mone g13 (.cells [Value.int .i64 (((sX d0 1048576 : Nat) : Int)), Value.int .i64 (((sX (d0.drop (sN d0 1048576)) 1048576 : Nat) : Int)), Value.slice A11_0 (((bRead (d0.drop (sN d0 1048576 + (sN (d0.drop (sN d0 1048576)) 1048576)))).1).length) (c11_0)].toArray 32 (0, 0))), (111, m11), (102, mone g1 (.cells [Value.int .i64 (((sX d0 1048576 : Nat) : Int)), Value.int .i64 (((sX (d0.drop (sN d0 1048576)) 1048576 : Nat) : Int)), Value.slice A11_0 (((bRead (d0.drop (sN d0 1048576 + (sN (d0.drop (sN d0 1048576)) 1048576)))).1).length) (c11_0)].toArray 32 (0, 0))), (0, wm W)] (by kernel_rfl) ?_
            refine VO.k14 0 2 3 4 5 6 7 8 9 10 11 19 30 62 ?_
            refine VC.ret ?_
            refine ⟨_, _, res_run (rs := [.cell 2 32, .tmp 3]) rfl (.agg 102 rfl tk32 rfl ⟨_, _, _, mone_self _ _, Nat.le_of_ble_eq_true rfl, rfl⟩ (.tmp rfl .nil)), fun W_ hI => out_of (l := [m11]) hI [111] rfl rfl (mle_refl _) (fun hS_ => ?_)⟩
            dsimp only [packV]
            have he0 : ((cDecode d0).1 : Ty.Den TCommit) = (((sX d0 1048576 : Nat) : Int), ((sX (d0.drop (sN d0 1048576)) 1048576 : Nat) : Int), (bRead (d0.drop (sN d0 1048576 + (sN (d0.drop (sN d0 1048576)) 1048576)))).1) := by first | rfl | (first | (rw [cDecode_e1 (by assumption)] <;> rfl) | (rw [cDecode_e2 (by assumption)] <;> rfl) | (rw [cDecode_e3 (by assumption)] <;> rfl) | (rw [cDecode_e4 (by assumption)] <;> rfl) | (rw [cDecode_e5 (by assumption)] <;> rfl) | (rw [cDecode_ok (by assumption) (by assumption) (by assumption) (by assumption) (by assumption)] <;> rfl))
            refine ⟨[Value.int .i64 (((sX d0 1048576 : Nat) : Int)), Value.int .i64 (((sX (d0.drop (sN d0 1048576)) 1048576 : Nat) : Int)), Value.slice A11_0 (((bRead (d0.drop (sN d0 1048576 + (sN (d0.drop (sN d0 1048576)) 1048576)))).1).length) (c11_0)], ?_, ?_⟩
            rotate_left
            · rw [he0]; exact (mkO_Commit ((sX d0 1048576 : Nat) : Int) ((sX (d0.drop (sN d0 1048576)) 1048576 : Nat) : Int) ((bRead (d0.drop (sN d0 1048576 + (sN (d0.drop (sN d0 1048576)) 1048576)))).1) hS_ bdk bdk (OwnL.ow (Ow.ownl f11_0 rfl mnil) rfl))
            all_goals (first | rfl | (first | (rw [cDecode_e1 (by assumption)] <;> rfl) | (rw [cDecode_e2 (by assumption)] <;> rfl) | (rw [cDecode_e3 (by assumption)] <;> rfl) | (rw [cDecode_e4 (by assumption)] <;> rfl) | (rw [cDecode_e5 (by assumption)] <;> rfl) | (rw [cDecode_ok (by assumption) (by assumption) (by assumption) (by assumption) (by assumption)] <;> rfl)))
end
section
set_option linter.unusedVariables false
abbrev DHC := Int × Int × Hd
instance decHC : DecidableEq DHC := (@instDecidableEqProd _ _ inferInstance (@instDecidableEqProd _ _ inferInstance inferInstance))
end
section
set_option linter.unusedVariables false
def fEnc (r : Bytes) : Bytes := venc r.length ++ r
def fAppend (b r : Bytes) : Bytes × Int := if 131072 < r.length then ([], 3) else (b ++ fEnc r, 0)
def fRead (b : Bytes) : Bytes × Int × Int := if sE b 131072 = 0 ∧ (sX b 131072 : Int) ≤ (b.length : Int) - sN b 131072 then ((b.drop (sN b 131072)).take (sX b 131072), (sN b 131072 : Int) + sX b 131072, 0) else ([], 0, 5)
theorem fAppend_long {b r : Bytes} (h : (131072 : Int) < r.length) : fAppend b r = ([], 3) := if_pos (by omega)
theorem fAppend_good {b r : Bytes} (h : ¬ (131072 : Int) < r.length) : fAppend b r = (b ++ fEnc r, 0) := if_neg (by omega)
theorem fEnc_len {r : Bytes} (h : r.length ≤ 131072) : (fEnc r).length ≤ r.length + 10 := by
  have := venc_len (x := r.length) (by omega)
  simp only [fEnc, List.length_append]; omega
theorem fEnc_pos (r : Bytes) : 1 ≤ (fEnc r).length := by
  have := venc_pos r.length
  simp only [fEnc, List.length_append]; omega
theorem sN_pos {b : Bytes} {m : Int} (h : sE b m = 0) : 1 ≤ sN b m := by
  unfold sE at h; unfold sN
  cases hv : vsmall b m with
  | none => rw [hv] at h; cases h
  | some p =>
    obtain ⟨x, n⟩ := p
    unfold vsmall at hv
    cases hr : vread b with
    | none => rw [hr] at hv; cases hv
    | some q =>
      obtain ⟨y, k⟩ := q
      rw [hr] at hv
      dsimp only at hv
      split at hv
      · cases hv; exact (vread_bounds hr).2.1
      · cases hv
theorem fRead_bounds (b : Bytes) : 0 ≤ (fRead b).2.1 ∧ (fRead b).2.1 ≤ b.length ∧ (fRead b).1.length ≤ 131072 ∧ ((fRead b).2.2 = 0 ∨ (fRead b).2.2 = 5) ∧ ((fRead b).2.2 = 0 → 1 ≤ (fRead b).2.1) ∧ (fRead b).1.length ≤ b.length := by
  have hb := s_bounds b 131072 (by omega)
  have := hb.2.1 (by omega)
  unfold fRead
  split
  · rename_i h
    have := sN_pos h.1
    refine ⟨by dsimp only; omega, by dsimp only; omega, by simp only [List.length_take]; omega, .inl rfl, fun _ => by dsimp only; omega, by simp only [List.length_take, List.length_drop]; omega⟩
  · exact ⟨Int.le_refl _, by simp, by simp, .inr rfl, fun h => (by cases h), by simp⟩
theorem fRead_there {r : Bytes} (h : r.length ≤ 131072) (s : Bytes) : fRead (fEnc r ++ s) = (r, ((fEnc r).length : Int), 0) := by
  obtain ⟨a1, a2, a3⟩ := s_there (x := r.length) (m := 131072) (by omega) (by omega) (r ++ s)
  unfold fEnc
  rw [List.append_assoc]
  unfold fRead
  rw [a1, a2, a3, if_pos ⟨rfl, by simp only [List.length_append]; omega⟩, List.drop_left, List.take_left]
  simp only [List.length_append, Int.natCast_add]
def fWhole (b : Bytes) : Int × Int × Bool := if sE b 131072 = 0 ∧ (sX b 131072 : Int) ≤ (b.length : Int) - sN b 131072 then ((sN b 131072 : Int), (sN b 131072 : Int) + sX b 131072, true) else (0, 0, false)
theorem whole_no1 {b : Bytes} (h : ¬ sE b 131072 = 0) : fWhole b = (0, 0, false) := if_neg fun q => h q.1
theorem whole_no2 {b : Bytes} (h : (b.length : Int) - sN b 131072 < sX b 131072) : fWhole b = (0, 0, false) := if_neg fun q => by have := q.2; omega
theorem whole_yes {b : Bytes} (h : ¬ ¬ sE b 131072 = 0) (h2 : ¬ (b.length : Int) - sN b 131072 < sX b 131072) : fWhole b = ((sN b 131072 : Int), (sN b 131072 : Int) + sX b 131072, true) := if_pos ⟨Decidable.not_not.1 h, by omega⟩
theorem fWhole_bounds (b : Bytes) : 0 ≤ (fWhole b).1 ∧ (fWhole b).1 ≤ (fWhole b).2.1 ∧ (fWhole b).2.1 ≤ b.length ∧ (fWhole b).2.1 - (fWhole b).1 ≤ 131072 := by
  have hb := s_bounds b 131072 (by omega)
  have := hb.2.1 (by omega)
  unfold fWhole
  split
  · rename_i h; exact ⟨by dsimp only; omega, by dsimp only; omega, by dsimp only; omega, by dsimp only; omega⟩
  · exact ⟨Int.le_refl _, Int.le_refl _, by simp, by decide⟩
theorem fRead_bad {b : Bytes} (h : (fWhole b).2.2 = false) : fRead b = ([], 0, 5) := by
  unfold fWhole at h; unfold fRead
  split at h
  · cases h
  · rename_i h0; exact if_neg h0
theorem fRead_good {b : Bytes} (h : (fWhole b).2.2 = true) : fRead b = ((b.take (fWhole b).2.1.toNat).drop (fWhole b).1.toNat, (fWhole b).2.1, 0) := by
  have hb := s_bounds b 131072 (by omega)
  unfold fWhole at h ⊢; unfold fRead
  split at h
  · rename_i h0
    rw [if_pos h0, if_pos h0]
    dsimp only
    rw [List.drop_take, Int.toNat_natCast, show ((sN b 131072 : Int) + sX b 131072).toNat - sN b 131072 = sX b 131072 by omega]
  · cases h
theorem clone_nil' {e : Ty} {m : Mem} {A : Option Addr} {c : Nat} {l : List e.Den} (h : Rd (.sl e) m [.slice A l.length c] l) (hA : A = none) : l = [] := by
  subst hA
  obtain ⟨A', c', h1, _, _, h4⟩ := h
  rcases h4 with h4 | ⟨g, off, all, k1, _⟩
  · exact List.eq_nil_of_length_eq_zero h4
  · simp only [List.cons.injEq, Value.slice.injEq, and_true] at h1
    rw [← h1.1] at k1; cases k1
theorem fAppend_len (b r : Bytes) : (fAppend b r).1.length ≤ b.length + 131082 := by
  unfold fAppend
  split
  · simp
  · have := fEnc_len (r := r) (by omega)
    simp only [List.length_append]; omega
theorem fAppend_range (b r : Bytes) : 0 ≤ (fAppend b r).2 ∧ (fAppend b r).2 ≤ 3 := by unfold fAppend; split <;> exact ⟨by dsimp only; omega, by dsimp only; omega⟩
theorem cEnc_len {c : DCommit} (h : cCheck c = 0) : (cEnc c).length ≤ 700 := by
  have := cEncode_len c
  unfold cEncode at this
  rwa [if_pos h] at this
def cFrame (c : DCommit) : Bytes := fEnc (cEnc c)
def cFrames (l : List DCommit) : Bytes := (l.map cFrame).flatten
theorem cFrame_len {c : DCommit} (h : cCheck c = 0) : (cFrame c).length ≤ 710 ∧ 1 ≤ (cFrame c).length := by
  have h1 := cEnc_len h
  have h2 := fEnc_len (r := cEnc c) (by omega)
  exact ⟨by unfold cFrame; omega, fEnc_pos _⟩
theorem cFrames_cons (c : DCommit) (l : List DCommit) : cFrames (c :: l) = cFrame c ++ cFrames l := rfl
theorem cFrames_len : ∀ {l : List DCommit}, (∀ c ∈ l, cCheck c = 0) → (cFrames l).length ≤ 710 * l.length
  | [], _ => by simp [cFrames]
  | c :: l, h => by
    have h1 := cFrame_len (h c (.head _))
    have h2 := cFrames_len (l := l) fun x hx => h x (.tail _ hx)
    rw [cFrames_cons]
    simp only [List.length_append, List.length_cons]; omega
/-- a frame of a commit is read -/
theorem frame_there {c : DCommit} (h : cCheck c = 0) (s : Bytes) : fRead (cFrame c ++ s) = (cEnc c, ((cFrame c).length : Int), 0) ∧ cDecode (cEnc c) = (c, 0) :=
  ⟨fRead_there (by have := cEnc_len h; omega) s, cDecode_there h⟩
end
section
set_option linter.unusedVariables false
set_option linter.unusedSimpArgs false
set_option maxRecDepth 4000
theorem fnOk109 : fnOk Try.prog 109 = true := by kernel_rfl
theorem fnOk110 : fnOk Try.prog 110 = true := by kernel_rfl
theorem cloneB_ok (W : World) {v0 : Value} {d0 : List UInt8} (h0 : Rd (.sl .byte) (wm W) [v0] d0) (e0 : d0.length ≤ 140737488355000) : CallR Try.prog 110 [v0] W (mnil) (fun v m' => ∃ (s0 : Value), v = s0 ∧ Ow (.sl .byte) m' [s0] (d0)) := by
  obtain ⟨A0, c0, rfl, l0, k0⟩ := h0.slice
  simp only [maxLen] at k0
  refine CallR.ofA (n := 8) Try.func110 rfl rfl rfl ?_
  refine VC.rs ?_
  refine VO.as ?_
  refine VO.k2 0 2 ?_
  refine VC.seq ?_
  refine VC.rs ?_
  refine VO.mv ?_
  refine VO.y rfl (.snil rfl rfl Try.underlying25) ?_
  refine VO.k3 0 2 4 ?_
  refine VC.cond rfl (fun hc1 => ?_) (fun hc1 => ?_)
  · -- T
    refine VC.rs ?_
    refine VO.as ?_
    refine VO.keep [0] [(0, wm W)] (by kernel_rfl) ?_
    refine VO.k3 0 2 4 ?_
    refine VC.ret ?_
    refine outR ?_
    refine ⟨_, _, res_run (rs := [.tmp 2]) rfl (.tmp rfl .nil), fun W_ hI => out_of (l := []) hI [] rfl rfl (mle_refl _) (fun hS_ => ?_)⟩
    dsimp only [packV]
    have he0 : (d0 : Ty.Den (.sl .byte)) = [] := by first | rfl | (exact clone_nil' h0 ‹_ = none›)
    refine ⟨Value.slice none (0) (0), ?_, ?_⟩
    rotate_left
    · rw [he0]; exact (Ow.nil _ _)
    all_goals (first | rfl | (simp [*]; done))
  · -- F
    refine VC.skip ?_
    refine outN ?_
    refine VC.rs ?_
    refine VO.bsl (cs := []) 103 rfl rfl tsl25 tz5 rfl rfl (fun g2 => ?_)
    refine VO.mv ?_
    have ho5 : OwnL .byte (mone g2 (.cells [].toArray 5 (0, 0))) mnil (Value.slice (some ⟨g2, 0, none⟩) (0) (0)) [] := OwnL.lit 0 All2c.nil rfl rfl
    obtain ⟨mo4, cs4, hM4, hA4, hC4⟩ := ho5
    obtain ⟨all4, hS4, hR4⟩ := Rd.srcI (P := Try.prog) (h0) Try.underlying25
    refine VO.app 103 rfl rfl rfl tsl25 tz5 rfl rfl hM4 hA4 (hS4 _ 0 rfl) hR4.nice bdm bd (by decide) (fun v4 m4 hN4 => ?_)
    have ho4 : OwnL .byte m4 mnil v4 (d0) := OwnL.more hC4 hN4 (All2c.mono hR4 fun _ _ h => Rd.flat rfl h _)
    obtain ⟨A4, c4, rfl, l4, k4⟩ := ho4.slice
    simp only [maxLen] at k4
    refine VO.as ?_
    refine VO.keep [103, 0] [(103, m4), (0, wm W)] (by kernel_rfl) ?_
    refine VO.k3 0 2 4 ?_
    refine VC.ret ?_
    refine ⟨_, _, res_run (rs := [.tmp 2]) rfl (.tmp rfl .nil), fun W_ hI => out_of (l := [m4]) hI [103] rfl rfl (mle_refl _) (fun hS_ => ?_)⟩
    dsimp only [packV]
    have he0 : (d0 : Ty.Den (.sl .byte)) = d0 := by first | rfl | (exact clone_nil' h0 ‹_ = none›)
    refine ⟨Value.slice A4 ((d0).length) (c4), ?_, ?_⟩
    rotate_left
    · rw [he0]; exact (Ow.up (OwnL.ow ho4 rfl) (hS_.1 _ (.head _)))
    all_goals (first | rfl | (simp [*]; done))
theorem fAppend_ok (W : World) {v0 : Value} {d0 : List UInt8} (h0 : Rd (.sl .byte) (wm W) [v0] d0) {v1 : Value} {d1 : List UInt8} (h1 : Rd (.sl .byte) (wm W) [v1] d1) (e0 : d0.length ≤ 140737488000000) : CallR Try.prog 55 [v0, v1] W (mnil) (fun v m' => ∃ (s0 : Value), v = .tuple #[s0, .int .i64 ((fAppend d0 d1).2)] ∧ Ow (.sl .byte) m' [s0] ((fAppend d0 d1).1)) := by
  obtain ⟨A0, c0, rfl, l0, k0⟩ := h0.slice
  simp only [maxLen] at k0
  obtain ⟨A1, c1, rfl, l1, k1⟩ := h1.slice
  simp only [maxLen] at k1
  refine CallR.ofA (n := 16) Try.func55 rfl rfl rfl ?_
  refine VC.rs ?_
  refine VO.as ?_
  refine VO.as ?_
  refine VO.k4 0 1 4 5 ?_
  refine VC.seq ?_
  refine VC.rs ?_
  refine VO.mv ?_
  refine VO.y rfl (.lenS rfl tsl25) ?_
  refine VO.y rfl (.gtr rfl rfl) ?_
  refine VO.k5 0 1 4 5 8 ?_
  refine VC.cond rfl (fun hc1 => ?_) (fun hc1 => ?_)
  · -- T
    refine VC.rs ?_
    refine VO.as ?_
    refine VO.as ?_
    refine VO.keep [0] [(0, wm W)] (by kernel_rfl) ?_
    refine VO.k5 0 1 4 5 8 ?_
    refine VC.ret ?_
    refine outR ?_
    refine ⟨_, _, res_run (rs := [.tmp 4, .tmp 5]) rfl (.tmp rfl (.tmp rfl .nil)), fun W_ hI => out_of (l := []) hI [] rfl rfl (mle_refl _) (fun hS_ => ?_)⟩
    dsimp only [packV]
    have he0 : ((fAppend d0 d1).1 : Ty.Den (.sl .byte)) = [] := by first | rfl | (first | (rw [fAppend_long (by omega)] <;> rfl) | (rw [fAppend_good (by omega)] <;> first | rfl | (simp only [fEnc, List.append_assoc, Int.toNat_natCast, List.nil_append]; done)))
    refine ⟨Value.slice none (0) (0), ?_, ?_⟩
    rotate_left
    · rw [he0]; exact (Ow.nil _ _)
    all_goals (first | rfl | (first | (rw [fAppend_long (by omega)] <;> rfl) | (rw [fAppend_good (by omega)] <;> first | rfl | (simp only [fEnc, List.append_assoc, Int.toNat_natCast, List.nil_append]; done))))
  · -- F
    refine VC.skip ?_
    refine outN ?_
    refine VC.rs ?_
    refine VO.mv ?_
    refine VO.mv ?_
    refine VO.y rfl (.lenS rfl tsl25) ?_
    refine VO.y rfl (.cvI rfl ⟨_, Try.underlying3⟩ Try.underlying82 (IntWalk.u64_in _ bd)) ?_
    refine VO.callN 102 rfl fnOk54 rfl (fun W hW => vAppend_ok W (Rd.mono h0 (hW.at (i := 0) rfl)) d1.length bd bd) (fun v2 m2 hv2 => ?_)
    obtain ⟨s2_0, rfl, f2_0⟩ := hv2
    have hfa3 := venc_len (x := d1.length) (by first | omega | exact or64 (by assumption) _)
    obtain ⟨A2_0, c2_0, eq2_0, l2_0, k2_0⟩ := f2_0.slice
    subst eq2_0
    simp only [maxLen] at k2_0
    refine VO.mv ?_
    obtain ⟨mo4, cs4, hM4, hA4, hC4⟩ := (Ow.ownl f2_0 rfl mnil)
    obtain ⟨all4, hS4, hR4⟩ := Rd.srcI (P := Try.prog) (h1) Try.underlying25
    refine VO.app 102 rfl rfl rfl tsl25 tz5 rfl rfl hM4 hA4 (hS4 _ 0 rfl) hR4.nice bdm bd (by decide) (fun v4 m4 hN4 => ?_)
    have ho4 : OwnL .byte m4 mnil v4 ((d0 ++ venc d1.length) ++ d1) := OwnL.more hC4 hN4 (All2c.mono hR4 fun _ _ h => Rd.flat rfl h _)
    obtain ⟨A4, c4, rfl, l4, k4⟩ := ho4.slice
    simp only [maxLen] at k4
    refine VO.as ?_
    refine VO.as ?_
    refine VO.keep [102, 0] [(102, m4), (0, wm W)] (by kernel_rfl) ?_
    refine VO.k5 0 1 4 5 8 ?_
    refine VC.ret ?_
    refine ⟨_, _, res_run (rs := [.tmp 4, .tmp 5]) rfl (.tmp rfl (.tmp rfl .nil)), fun W_ hI => out_of (l := [m4]) hI [102] rfl rfl (mle_refl _) (fun hS_ => ?_)⟩
    dsimp only [packV]
    have he0 : ((fAppend d0 d1).1 : Ty.Den (.sl .byte)) = (d0 ++ venc d1.length) ++ d1 := by first | rfl | (first | (rw [fAppend_long (by omega)] <;> rfl) | (rw [fAppend_good (by omega)] <;> first | rfl | (simp only [fEnc, List.append_assoc, Int.toNat_natCast, List.nil_append]; done)))
    refine ⟨Value.slice A4 (((d0 ++ venc d1.length) ++ d1).length) (c4), ?_, ?_⟩
    rotate_left
    · rw [he0]; exact (Ow.up (OwnL.ow ho4 rfl) (hS_.1 _ (.head _)))
    all_goals (first | rfl | (first | (rw [fAppend_long (by omega)] <;> rfl) | (rw [fAppend_good (by omega)] <;> first | rfl | (simp only [fEnc, List.append_assoc, Int.toNat_natCast, List.nil_append]; done))))
theorem fWhole_ok (W : World) {v0 : Value} {d0 : List UInt8} (h0 : Rd (.sl .byte) (wm W) [v0] d0) : CallR Try.prog 109 [v0] W (mnil) (fun v m' => v = .tuple #[.int .i64 ((fWhole d0).1), .int .i64 ((fWhole d0).2.1), .bool ((fWhole d0).2.2)]) := by
  obtain ⟨A0, c0, rfl, l0, k0⟩ := h0.slice
  simp only [maxLen] at k0
  refine CallR.ofA (n := 28) Try.func109 rfl rfl rfl ?_
  refine VC.rs ?_
  refine VO.as ?_
  refine VO.as ?_
  refine VO.as ?_
  refine VO.k4 0 2 3 4 ?_
  refine VC.rs ?_
  refine VO.mv ?_
  refine VO.callN 101 rfl fnOk111 rfl (fun W hW => vSmall_ok W (Rd.mono h0 (hW.at (i := 0) rfl)) 131072 bdk) (fun v1 m1 hv1 => ?_)
  subst hv1
  have hfa2 := s_bounds d0 131072 (by omega)
  refine VO.mv ?_
  refine VO.y rfl (.ext rfl rfl) ?_
  refine VO.y rfl (.ext rfl rfl) ?_
  refine VO.y rfl (.ext rfl rfl) ?_
  refine VO.as ?_
  refine VO.as ?_
  refine VO.as ?_
  refine VO.k7 0 2 3 4 5 6 7 ?_
  refine VC.seq ?_
  refine VC.rs ?_
  refine VO.mv ?_
  refine VO.y rfl (.neq rfl rfl) ?_
  refine VO.mv ?_
  refine VO.dec (t := 16) rfl (fun hc3 => ?_) (fun hc3 => ?_)
  · -- T
    refine VO.gN ?_
    refine VO.gN ?_
    refine VO.gN ?_
    refine VO.gN ?_
    refine VO.gN ?_
    refine VO.gN ?_
    refine VO.y rfl (.pT rfl rfl) ?_
    refine VO.keep [0] [(0, wm W)] (by kernel_rfl) ?_
    refine VO.k8 0 2 3 4 5 6 7 23 ?_
    refine VC.condT rfl ?_
    refine VC.rs ?_
    refine VO.as ?_
    refine VO.as ?_
    refine VO.as ?_
    refine VO.k8 0 2 3 4 5 6 7 23 ?_
    refine VC.ret ?_
    refine outR ?_
    refine ⟨_, _, res_run (rs := [.tmp 2, .tmp 3, .tmp 4]) rfl (.tmp rfl (.tmp rfl (.tmp rfl .nil))), fun W_ hI => out_of (l := []) hI [] rfl rfl (mle_refl _) (fun hS_ => ?_)⟩
    dsimp only [packV]
    all_goals (first | rfl | (first | (rw [whole_no1 (by assumption)] <;> rfl) | (rw [whole_no2 (by omega)] <;> rfl) | (rw [whole_yes (by assumption) (by omega)] <;> rfl)))
  · -- F
    refine VO.gy rfl ⟨_, rfl, rfl⟩ (.mv rfl) ?_
    refine VO.gy rfl ⟨_, rfl, rfl⟩ (.lenS rfl tsl25) ?_
    refine VO.gy rfl ⟨_, rfl, rfl⟩ (.mv rfl) ?_
    refine VO.gy rfl ⟨_, rfl, rfl⟩ (.sub rfl rfl rfl ⟨bd, bd⟩) ?_
    refine VO.gy rfl ⟨_, rfl, rfl⟩ (.mv rfl) ?_
    refine VO.gy rfl ⟨_, rfl, rfl⟩ (.lss rfl rfl) ?_
    refine VO.y rfl (.pF rfl rfl) ?_
    refine VO.keep [0] [(0, wm W)] (by kernel_rfl) ?_
    refine VO.k8 0 2 3 4 5 6 7 23 ?_
    refine VC.cond rfl (fun hc4 => ?_) (fun hc4 => ?_)
    · -- FT
      refine VC.rs ?_
      refine VO.as ?_
      refine VO.as ?_
      refine VO.as ?_
      refine VO.k8 0 2 3 4 5 6 7 23 ?_
      refine VC.ret ?_
      refine outR ?_
      refine ⟨_, _, res_run (rs := [.tmp 2, .tmp 3, .tmp 4]) rfl (.tmp rfl (.tmp rfl (.tmp rfl .nil))), fun W_ hI => out_of (l := []) hI [] rfl rfl (mle_refl _) (fun hS_ => ?_)⟩
      dsimp only [packV]
      all_goals (first | rfl | (first | (rw [whole_no1 (by assumption)] <;> rfl) | (rw [whole_no2 (by omega)] <;> rfl) | (rw [whole_yes (by assumption) (by omega)] <;> rfl)))
    · -- FF
      refine VC.skip ?_
      refine outN ?_
      refine VC.rs ?_
      refine VO.mv ?_
      refine VO.mv ?_
      refine VO.mv ?_
      refine VO.y rfl (.add (c := ((sN d0 131072 + (sX d0 131072) : Nat) : Int)) rfl rfl (by omega) ⟨bd, bd⟩) ?_
      refine VO.as ?_
      refine VO.as ?_
      refine VO.as ?_
      refine VO.k8 0 2 3 4 5 6 7 23 ?_
      refine VC.ret ?_
      refine ⟨_, _, res_run (rs := [.tmp 2, .tmp 3, .tmp 4]) rfl (.tmp rfl (.tmp rfl (.tmp rfl .nil))), fun W_ hI => out_of (l := []) hI [] rfl rfl (mle_refl _) (fun hS_ => ?_)⟩
      dsimp only [packV]
      all_goals (first | rfl | (first | (rw [whole_no1 (by assumption)] <;> rfl) | (rw [whole_no2 (by omega)] <;> rfl) | (rw [whole_yes (by assumption) (by omega)] <;> rfl)))
theorem fRead_ok (W : World) {v0 : Value} {d0 : List UInt8} (h0 : Rd (.sl .byte) (wm W) [v0] d0) : CallR Try.prog 91 [v0] W (mnil) (fun v m' => ∃ (s0 : Value), v = .tuple #[s0, .int .i64 ((fRead d0).2.1), .int .i64 ((fRead d0).2.2)] ∧ Ow (.sl .byte) m' [s0] ((fRead d0).1)) := by
  obtain ⟨A0, c0, rfl, l0, k0⟩ := h0.slice
  simp only [maxLen] at k0
  refine CallR.ofA (n := 22) Try.func91 rfl rfl rfl ?_
  refine VC.rs ?_
  refine VO.as ?_
  refine VO.as ?_
  refine VO.as ?_
  refine VO.k4 0 2 3 4 ?_
  refine VC.rs ?_
  refine VO.mv ?_
  refine VO.callN 101 rfl fnOk109 rfl (fun W hW => fWhole_ok W (Rd.mono h0 (hW.at (i := 0) rfl))) (fun v1 m1 hv1 => ?_)
  subst hv1
  have hfa2 := fWhole_bounds d0
  refine VO.mv ?_
  refine VO.y rfl (.ext rfl rfl) ?_
  refine VO.y rfl (.ext rfl rfl) ?_
  refine VO.y rfl (.ext rfl rfl) ?_
  refine VO.as ?_
  refine VO.as ?_
  refine VO.as ?_
  refine VO.k7 0 2 3 4 5 6 7 ?_
  refine VC.seq ?_
  refine VC.rs ?_
  refine VO.mv ?_
  refine VO.y rfl (.not rfl) ?_
  refine VO.keep [0] [(0, wm W)] (by kernel_rfl) ?_
  refine VO.k8 0 2 3 4 5 6 7 15 ?_
  refine VC.condBN rfl (fun hc3 => ?_) (fun hc3 => ?_)
  · -- T
    refine VC.rs ?_
    refine VO.as ?_
    refine VO.as ?_
    refine VO.as ?_
    refine VO.k8 0 2 3 4 5 6 7 15 ?_
    refine VC.ret ?_
    refine outR ?_
    refine ⟨_, _, res_run (rs := [.tmp 2, .tmp 3, .tmp 4]) rfl (.tmp rfl (.tmp rfl (.tmp rfl .nil))), fun W_ hI => out_of (l := []) hI [] rfl rfl (mle_refl _) (fun hS_ => ?_)⟩
    dsimp only [packV]
    have he0 : ((fRead d0).1 : Ty.Den (.sl .byte)) = [] := by first | rfl | (first | (rw [fRead_bad (by first | assumption | simpa using ‹_›)] <;> rfl) | (rw [fRead_good (by first | assumption | simpa using ‹_›)] <;> rfl))
    refine ⟨Value.slice none (0) (0), ?_, ?_⟩
    rotate_left
    · rw [he0]; exact (Ow.nil _ _)
    all_goals (first | rfl | (first | (rw [fRead_bad (by first | assumption | simpa using ‹_›)] <;> rfl) | (rw [fRead_good (by first | assumption | simpa using ‹_›)] <;> rfl)))
  · -- F
    refine VC.skip ?_
    refine outN ?_
    refine VC.rs ?_
    refine VO.mv ?_
    refine VO.mv ?_
    refine VO.mv ?_
    obtain ⟨A4, hA4, hs4⟩ := h0.sub' 1 (((fWhole d0).1).toNat) (((fWhole d0).2.1).toNat) rfl bd bd
    refine VO.y rfl (.slI (((fWhole d0).1).toNat) (((fWhole d0).2.1).toNat) A4 rfl rfl rfl tsl25 bd bd hA4 bd bd) ?_
    refine VO.callN 105 rfl fnOk110 rfl (fun W hW => cloneB_ok W (Rd.mono hs4 (hW.at (i := 0) rfl)) bd) (fun v5 m5 hv5 => ?_)
    obtain ⟨s5_0, rfl, f5_0⟩ := hv5
    obtain ⟨A5_0, c5_0, eq5_0, l5_0, k5_0⟩ := f5_0.slice
    subst eq5_0
    simp only [maxLen] at k5_0
    refine VO.mv ?_
    refine VO.as ?_
    refine VO.as ?_
    refine VO.as ?_
    refine VO.k8 0 2 3 4 5 6 7 15 ?_
    refine VC.ret ?_
    refine ⟨_, _, res_run (rs := [.tmp 2, .tmp 3, .tmp 4]) rfl (.tmp rfl (.tmp rfl (.tmp rfl .nil))), fun W_ hI => out_of (l := [m5]) hI [105] rfl rfl (mle_refl _) (fun hS_ => ?_)⟩
    dsimp only [packV]
    have he0 : ((fRead d0).1 : Ty.Den (.sl .byte)) = ((d0.take (((fWhole d0).2.1).toNat)).drop (((fWhole d0).1).toNat)) := by first | rfl | (first | (rw [fRead_bad (by first | assumption | simpa using ‹_›)] <;> rfl) | (rw [fRead_good (by first | assumption | simpa using ‹_›)] <;> rfl))
    refine ⟨Value.slice A5_0 (((d0.take (((fWhole d0).2.1).toNat)).drop (((fWhole d0).1).toNat)).length) (c5_0), ?_, ?_⟩
    rotate_left
    · rw [he0]; exact (Ow.up (OwnL.ow (Ow.ownl f5_0 rfl mnil) rfl) (hS_.1 _ (.head _)))
    all_goals (first | rfl | (first | (rw [fRead_bad (by first | assumption | simpa using ‹_›)] <;> rfl) | (rw [fRead_good (by first | assumption | simpa using ‹_›)] <;> rfl)))
end
section
set_option linter.unusedVariables false
abbrev Ddiskstep := Int × Int × (List UInt8) × Int
instance decdiskstep : DecidableEq Ddiskstep := (@instDecidableEqProd _ _ inferInstance (@instDecidableEqProd _ _ inferInstance (@instDecidableEqProd _ _ inferInstance inferInstance)))
abbrev DdiskDisk := Bool × Bool × Bool × Int × Int × ((List UInt8) × (List UInt8) × (List UInt8) × (List UInt8)) × (List Ddiskstep)
instance decdiskDisk : DecidableEq DdiskDisk := (@instDecidableEqProd _ _ inferInstance (@instDecidableEqProd _ _ inferInstance (@instDecidableEqProd _ _ inferInstance (@instDecidableEqProd _ _ inferInstance (@instDecidableEqProd _ _ inferInstance (@instDecidableEqProd _ _ (@instDecidableEqProd _ _ inferInstance (@instDecidableEqProd _ _ inferInstance (@instDecidableEqProd _ _ inferInstance inferInstance))) inferInstance))))))
abbrev Dref05Raw := Int × Bool × Int × (List UInt8)
instance decref05Raw : DecidableEq Dref05Raw := (@instDecidableEqProd _ _ inferInstance (@instDecidableEqProd _ _ inferInstance (@instDecidableEqProd _ _ inferInstance inferInstance)))
abbrev Dref05Disk := Bool × ((List UInt8) × (List UInt8) × (List UInt8) × (List UInt8)) × (List Dref05Raw) × Bool × Bool × Int × Int
instance decref05Disk : DecidableEq Dref05Disk := (@instDecidableEqProd _ _ inferInstance (@instDecidableEqProd _ _ (@instDecidableEqProd _ _ inferInstance (@instDecidableEqProd _ _ inferInstance (@instDecidableEqProd _ _ inferInstance inferInstance))) (@instDecidableEqProd _ _ inferInstance (@instDecidableEqProd _ _ inferInstance (@instDecidableEqProd _ _ inferInstance (@instDecidableEqProd _ _ inferInstance inferInstance))))))
abbrev Dlaw05Act := Int × Int × Int × Int × (List UInt8)
instance declaw05Act : DecidableEq Dlaw05Act := (@instDecidableEqProd _ _ inferInstance (@instDecidableEqProd _ _ inferInstance (@instDecidableEqProd _ _ inferInstance (@instDecidableEqProd _ _ inferInstance inferInstance))))
end
section
set_option linter.unusedVariables false
abbrev Dur := Bytes × Bytes × Bytes × Bytes
abbrev DStep := Ddiskstep
abbrev DDisk := DdiskDisk
def getF (q : Dur) (f : Int) : Bytes := if f = 0 then q.1 else if f = 1 then q.2.1 else if f = 2 then q.2.2.1 else q.2.2.2
def setF (q : Dur) (f : Int) (b : Bytes) : Dur := if f = 0 then (b, q.2) else if f = 1 then (q.1, b, q.2.2) else if f = 2 then (q.1, q.2.1, b, q.2.2.2) else (q.1, q.2.1, q.2.2.1, b)
def doneB (b : Bytes) (s : DStep) : Bytes := if s.1 = 0 then b ++ s.2.2.1 else if s.1 = 1 then b.take s.2.2.2.toNat else b
def stepQ (q : Dur) (s : DStep) : Dur := setF q s.2.1 (doneB (getF q s.2.1) s)
def play (q : Dur) (l : List DStep) : Dur := l.foldl stepQ q
def heldStep (f : Int) (b : Bytes) (s : DStep) : Bytes := if s.2.1 = f then doneB b s else b
def heldB (q : Dur) (l : List DStep) (f : Int) : Bytes := l.foldl (heldStep f) (getF q f)
def inF (f : Int) : Prop := 0 ≤ f ∧ f < 4
instance (f : Int) : Decidable (inF f) := by unfold inF; infer_instance
theorem get_set {q : Dur} {f g : Int} {b : Bytes} (hf : inF f) (hg : inF g) : getF (setF q f b) g = if f = g then b else getF q g := by
  obtain ⟨h0, h1⟩ := hf; obtain ⟨h2, h3⟩ := hg
  obtain rfl | rfl | rfl | rfl : f = 0 ∨ f = 1 ∨ f = 2 ∨ f = 3 := by omega
  all_goals obtain rfl | rfl | rfl | rfl : g = 0 ∨ g = 1 ∨ g = 2 ∨ g = 3 := by omega
  all_goals rfl
/-- A step that may be pending. -/
def goodSt (q : Dur) (s : DStep) : Prop := (s.1 = 0 ∨ s.1 = 1) ∧ inF s.2.1 ∧ (s.1 = 0 → 1 ≤ s.2.2.1.length ∧ s.2.2.1.length ≤ 64) ∧ (s.1 = 1 → 0 ≤ s.2.2.2 ∧ s.2.2.2 ≤ (getF q s.2.1).length)
def goodL : Dur → List DStep → Prop
  | _, [] => True
  | q, s :: r => goodSt q s ∧ goodL (stepQ q s) r
theorem goodL_app : ∀ {l r : List DStep} {q : Dur}, goodL q (l ++ r) ↔ goodL q l ∧ goodL (play q l) r
  | [], r, q => by simp [goodL, play]
  | s :: l, r, q => by
    show goodSt q s ∧ goodL (stepQ q s) (l ++ r) ↔ (goodSt q s ∧ goodL (stepQ q s) l) ∧ goodL (play (stepQ q s) l) r
    rw [goodL_app (l := l), and_assoc]
theorem play_held : ∀ {l : List DStep} {q : Dur} {f : Int}, goodL q l → inF f → getF (play q l) f = heldB q l f
  | [], q, f, _, _ => rfl
  | s :: l, q, f, h, hf => by
    show getF (play (stepQ q s) l) f = _
    rw [play_held h.2 hf]
    show l.foldl (heldStep f) (getF (stepQ q s) f) = l.foldl (heldStep f) (heldStep f (getF q f) s)
    rw [stepQ, get_set h.1.2.1 hf]
    unfold heldStep
    split
    · rename_i he; rw [he]
    · rfl
def okD (d : DDisk) : Prop := goodL d.2.2.2.2.2.1 d.2.2.2.2.2.2 ∧ 0 ≤ d.2.2.2.1 ∧ 0 ≤ d.2.2.2.2.1
def wrongD (d : DDisk) : Int := if d.1 = false then 1 else if d.2.1 = true then 6 else 0
def burnD (d : DDisk) : DDisk × Bool := if d.2.2.1 = true then (if d.2.2.2.1 = 0 then ((d.1, true, d.2.2), false) else ((d.1, d.2.1, d.2.2.1, d.2.2.2.1 - 1, d.2.2.2.2.1 + 1, d.2.2.2.2.2), true)) else ((d.1, d.2.1, d.2.2.1, d.2.2.2.1, d.2.2.2.2.1 + 1, d.2.2.2.2.2), true)
def addP (d : DDisk) (s : DStep) : DDisk := (d.1, d.2.1, d.2.2.1, d.2.2.2.1, d.2.2.2.2.1, d.2.2.2.2.2.1, d.2.2.2.2.2.2 ++ [s])
def settleD (d : DDisk) (k : Nat) : DDisk := (d.1, d.2.1, d.2.2.1, d.2.2.2.1, d.2.2.2.2.1, play d.2.2.2.2.2.1 (d.2.2.2.2.2.2.take k), d.2.2.2.2.2.2.drop k)
end
section
set_option linter.unusedVariables false
theorem burn_ok {d : DDisk} (h : okD d) : okD (burnD d).1 := by
  obtain ⟨h1, h2, h3⟩ := h
  unfold burnD
  split
  · split
    · exact ⟨h1, h2, h3⟩
    · exact ⟨h1, by dsimp only; omega, by dsimp only; omega⟩
  · exact ⟨h1, h2, by dsimp only; omega⟩
theorem burn_same (d : DDisk) : (burnD d).1.1 = d.1 ∧ (burnD d).1.2.2.2.2.2 = d.2.2.2.2.2 := by
  unfold burnD
  split
  · split <;> exact ⟨rfl, rfl⟩
  · exact ⟨rfl, rfl⟩
theorem add_ok {d : DDisk} {s : DStep} (h : okD d) (hs : goodSt (play d.2.2.2.2.2.1 d.2.2.2.2.2.2) s) : okD (addP d s) :=
  ⟨goodL_app.2 ⟨h.1, hs, trivial⟩, h.2⟩
def dCut (d : DDisk) (f n : Int) : DDisk × Int := if ¬ wrongD d = 0 then (d, wrongD d) else if ¬ inF f ∨ n < 0 ∨ ((heldB d.2.2.2.2.2.1 d.2.2.2.2.2.2 f).length : Int) < n then (d, 2) else
  if (burnD d).2 = true then (addP (burnD d).1 (1, f, [], n), 0) else ((burnD d).1, 6)
theorem cut_ok {d : DDisk} {f n : Int} (h : okD d) : okD (dCut d f n).1 := by
  unfold dCut; split
  · exact h
  · split
    · exact h
    · rename_i h1
      have hf : inF f := Decidable.byContradiction fun q => h1 (.inl q)
      have hn : ¬ n < 0 := fun q => h1 (.inr (.inl q))
      have hl : ¬ ((heldB d.2.2.2.2.2.1 d.2.2.2.2.2.2 f).length : Int) < n := fun q => h1 (.inr (.inr q))
      split
      · refine add_ok (burn_ok h) ⟨.inr rfl, hf, fun h => (by cases h), fun _ => ?_⟩
        rw [(burn_same d).2]
        rw [play_held h.1 hf]
        dsimp only; omega
      · exact burn_ok h
def dFuse (d : DDisk) (n : Int) : DDisk × Int := if ¬ wrongD d = 0 then (d, wrongD d) else if n < 0 then (d, 2) else ((d.1, d.2.1, true, n, d.2.2.2.2), 0)
theorem fuse_ok {d : DDisk} {n : Int} (h : okD d) : okD (dFuse d n).1 := by
  unfold dFuse; split
  · exact h
  · split
    · exact h
    · exact ⟨h.1, by dsimp only; omega, h.2.2⟩
def tornQ (d : DDisk) (t : Int) : Dur := match d.2.2.2.2.2.2 with
  | [] => d.2.2.2.2.2.1
  | s :: _ => if s.1 = 0 then stepQ d.2.2.2.2.2.1 (s.1, s.2.1, s.2.2.1.take (min t ((s.2.2.1.length : Int) - 1)).toNat, s.2.2.2) else d.2.2.2.2.2.1
def dStart (d : DDisk) (k t : Int) : DDisk × Int := if d.1 = false then (d, 1) else if d.2.1 = false ∨ k < 0 ∨ t < 0 then (d, 2) else
  ((d.1, false, false, 0, d.2.2.2.2.1, tornQ (settleD d (min k d.2.2.2.2.2.2.length).toNat) t, []), 0)
theorem start_ok {d : DDisk} {k t : Int} (h : okD d) : okD (dStart d k t).1 := by
  unfold dStart; split
  · exact h
  · split
    · exact h
    · exact ⟨trivial, Int.le_refl _, h.2.2⟩
end
section
section
variable {P : Program} {n : Nat} {w0 : World} {σ : Env} {Ω : Ctx} {ops : Array Oper} {K : Env → Ctx → Prop}
theorem Stp.appO {e : Ty} {s x : Operand} {t xt et xe : TypeId} {b g c : Nat} {d : Option Nat} {gd : Option (Nat × Bool)} {ty : TypeId} {pos : String} {af : Array Edge} {v : Value} {xs : List e.Den} {y : e.Den} {yc z : List Value} (i j k : Nat) {m mj mk : Mem} (hsv : ev σ s = some v) (hxv : ev σ x = some (.slice (some ⟨g, 0, none⟩) 1 c)) (ht : tsl P t = some (et, e.sz, b)) (hz : tz P et = some z) (hzl : z.length = e.sz)
    (hm : cget Ω i = some m) (hj : cget (cdel Ω i) j = some mj) (hk : cget Ω k = some mk) (hown : Ow (.sl e) m [v] xs) (hy : Ow e mj yc y) (hxt : P.underlying xt = some (.slice xe)) (hc : cellsAt mk g 0 e.sz yc) (hml : xs.length + 1 ≤ maxLen) (hb : (xs.length + 1) * b ≤ 140737488355328) (hb0 : b ≠ 0) :
    Stp P n w0 σ Ω ⟨d, .call { callee := .builtin .append, args := [s, x].toArray, argTypes := [t, xt].toArray }, ty, pos, af, gd⟩ (fun v' Ω' => ∃ m', Ow (.sl e) m' [v'] (xs ++ [y]) ∧ Ω' = (i, m') :: cdel (cdel Ω i) j) :=
  fun a W he hi K' Q hK => by
    obtain ⟨m0, m1, rc, hS, hA, hL⟩ := hown.opn
    obtain ⟨q1, q2, q3, q4, _⟩ := hi.gets (ids := [i, j]) (l := [m, mj]) (by simp [cgets, hm, hj])
    have dmj : mdj m mj := by simpa using q1
    have d01 : mdj m0 m1 := by have := hS.2; simpa using this
    have l0 := hS.1 m0 (.head _)
    have l1 := hS.1 m1 (.tail _ (.head _))
    have d1j : mdj m1 mj := dmj.mono l1 (mle_refl _)
    have hnew : mdj m0 (mun m1 mj) := (mdj_un d01.symm (dmj.mono l0 (mle_refl _)).symm).symm
    have hΩ2 : Inv w0 ((i, m0) :: (j, mun m1 mj) :: cdel (cdel Ω i) j) W := by
      have hdel : Inv w0 (cdel (cdel Ω i) j) W := q4
      have f1 : ∀ p ∈ cdel (cdel Ω i) j, mdj m p.2 := fun p hp => q3 m (.head _) p hp
      have f2 : ∀ p ∈ cdel (cdel Ω i) j, mdj mj p.2 := fun p hp => q3 mj (.tail _ (.head _)) p hp
      refine ⟨hi.os, hi.tape, hi.output, hi.size, fun p hp => ?_, List.pairwise_cons.2 ⟨fun p hp => ?_, List.pairwise_cons.2 ⟨fun p hp => ?_, hdel.dj⟩⟩⟩
      · rcases List.mem_cons.1 hp with rfl | hp
        · exact l0.trans (hi.at hm)
        · rcases List.mem_cons.1 hp with rfl | hp
          · exact mun_le (l1.trans (hi.at hm)) (q2 mj (.tail _ (.head _)))
          · exact hdel.le p hp
      · rcases List.mem_cons.1 hp with rfl | hp
        · exact hnew
        · exact (f1 p hp).mono l0 (mle_refl _)
      · exact mdj_un ((f1 p hp).mono l1 (mle_refl _)) (f2 p hp)
    have hsrc : SrcW P W e.sz xt (.slice (some ⟨g, 0, none⟩) 1 c) 1 yc := by
      refine ⟨⟨_, hxt, by simp⟩, by rw [hy.len]; omega, fun W' hW => ?_, fun W' => by simp [Builtin.lenOf]⟩
      have hc2 : cellsAt (wm W') g 0 (1 * e.sz) yc := by
        rw [Nat.one_mul]
        refine hc.mono (fun q o ho => ?_)
        have := hi.at hk q o ho
        unfold wm at this ⊢
        rw [hW]; exact this
      exact firstCells_row hc2
    refine app_wp (i := i) (m := m0) (m0 := m0) he hΩ2 hsv hxv ht hz hzl (by simp [cget]) (mle_refl _) hA hsrc hy.nice hml hb hb0 fun v' m' W' hA' hi' => ?_
    have hc' : cset ((i, m0) :: (j, mun m1 mj) :: cdel (cdel Ω i) j) i m' = (i, m') :: (j, mun m1 mj) :: cdel (cdel Ω i) j := by simp [cset]
    rw [hc'] at hi'
    have hdj : mdj m' (mun m1 mj) := (List.pairwise_cons.1 hi'.dj).1 _ (.head _)
    have hall : OwAll (Ow e) (mun m1 mj) (rc ++ yc) (xs ++ [y]) := OwAll.app d1j (mle_un_left _ _) (mle_un_right d1j) hL (.one hy (mle_refl _))
    have how : Ow (.sl e) (mun m' (mun m1 mj)) [v'] (xs ++ [y]) := ⟨v', m', mun m1 mj, rc ++ yc, rfl, hdj, mle_un_left _ _, mle_un_right hdj, by simpa using hA', hall⟩
    refine hK v' ((i, mun m' (mun m1 mj)) :: cdel (cdel Ω i) j) W' ⟨_, how, rfl⟩ ?_
    refine ⟨hi'.os, hi'.tape, hi'.output, hi'.size, fun p hp => ?_, List.pairwise_cons.2 ⟨fun p hp => ?_, (List.pairwise_cons.1 (List.pairwise_cons.1 hi'.dj).2).2⟩⟩
    · rcases List.mem_cons.1 hp with rfl | hp
      · exact mun_le (hi'.le (i, m') (.head _)) (hi'.le (j, mun m1 mj) (.tail _ (.head _)))
      · exact hi'.le p (.tail _ (.tail _ hp))
    · exact mdj_un ((List.pairwise_cons.1 hi'.dj).1 p (.tail _ hp)) ((List.pairwise_cons.1 (List.pairwise_cons.1 hi'.dj).2).1 p hp)
theorem VD.appO {tt q : Nat} {ss : List (Nat × Bool)} {ΩS : Ctx} {ty : TypeId} {pos : String} {af : Array Edge} {e : Ty} {s x : Operand} {t xt et xe : TypeId} {b dd g c : Nat} {v : Value} {xs : List e.Den} {y : e.Den} {yc z : List Value} (i j k : Nat) {m mj mk : Mem} (hd : Nat.blt dd n = true) (ho : ops[q]? = some ⟨some dd, .call { callee := .builtin .append, args := [s, x].toArray, argTypes := [t, xt].toArray }, ty, pos, af, none⟩) (hsv : ev σ s = some v) (hxv : ev σ x = some (.slice (some ⟨g, 0, none⟩) 1 c)) (ht : tsl P t = some (et, e.sz, b)) (hz : tz P et = some z) (hzl : z.length = e.sz)
    (hm : cget Ω i = some m) (hj : cget (cdel Ω i) j = some mj) (hk : cget Ω k = some mk) (hown : Ow (.sl e) m [v] xs) (hy : Ow e mj yc y) (hxt : P.underlying xt = some (.slice xe)) (hc : cellsAt mk g 0 e.sz yc) (hml : xs.length + 1 ≤ maxLen) (hb : (xs.length + 1) * b ≤ 140737488355328) (hb0 : b ≠ 0) (hS : ∀ m' W, Inv w0 ((i, m') :: cdel (cdel Ω i) j) W → Inv w0 ΩS W)
    (h : ∀ v' m', Ow (.sl e) m' [v'] (xs ++ [y]) → VD P n w0 ops ΩS tt ss ((dd, v') :: σ) ((i, m') :: cdel (cdel Ω i) j) K) : VD P n w0 ops ΩS tt ((q, false) :: ss) σ Ω K :=
  VD.s (fun v => (dd, v) :: σ) ho (fun v _ he => he.put hd v) (.inl rfl) (Stp.appO i j k hsv hxv ht hz hzl hm hj hk hown hy hxt hc hml hb hb0) (fun _ _ ⟨m', _, hΩ⟩ W hW => hS m' W (by subst hΩ; exact hW)) (fun v _ ⟨m', hp, hΩ⟩ => hΩ ▸ h v m' hp)
end
end
section
set_option linter.unusedVariables false
abbrev DAct := Dlaw05Act
def smallA (l : List DAct) : Prop := (∀ a ∈ l, a.2.2.2.2.length ≤ 400) ∧ l.length ≤ 100
instance (l : List DAct) : Decidable (smallA l) := by unfold smallA; infer_instance
structure Fz (n : Int) (d : DDisk) : Prop where
  ok : okD d
  made : d.1 = true
  has : d.2.2.1 = true
  sum : d.2.2.2.2.1 + d.2.2.2.1 = n
  off : d.2.1 = true → d.2.2.2.1 = 0
theorem Fz.burn {n : Int} {d : DDisk} (h : Fz n d) (ho : d.2.1 = false) : Fz n (burnD d).1 ∧ ((burnD d).2 = true ↔ (burnD d).1.2.1 = false) ∧ ((burnD d).2 = true → (burnD d).1.2.1 = false) := by
  have hk := burn_ok h.ok
  obtain ⟨h1, h2, h3, h4, h5⟩ := h
  unfold burnD at hk ⊢
  rw [if_pos h3] at hk ⊢
  split
  · rename_i h0
    rw [if_pos h0] at hk
    exact ⟨⟨hk, h2, h3, h4, fun _ => h0⟩, by simp, by simp⟩
  · rename_i h0
    rw [if_neg h0] at hk
    exact ⟨⟨hk, h2, h3, by dsimp only; omega, fun q => absurd (ho.symm.trans q) (by decide)⟩, by simp [ho], fun _ => ho⟩
theorem Fz.add {n : Int} {d : DDisk} {s : DStep} (h : Fz n d) (hk : okD (addP d s)) : Fz n (addP d s) := ⟨hk, h.made, h.has, h.sum, h.off⟩
/-- What a call leaves: e the answer, d' the disk behind it. -/
structure Fs (n : Int) (d d' : DDisk) (e : Int) : Prop where
  fz : Fz n d'
  off : e = 6 ↔ d'.2.1 = true
  arg : e = 2 → d' = d
theorem Fs.wrong {n : Int} {d : DDisk} (h : Fz n d) (hw : ¬ wrongD d = 0) : Fs n d d (wrongD d) := by
  have hm : ¬ d.1 = false := by rw [h.made]; decide
  unfold wrongD at hw ⊢
  rw [if_neg hm] at hw ⊢
  by_cases ho : d.2.1 = true
  · rw [if_pos ho]; exact ⟨h, by simp [ho], fun q => by cases q⟩
  · rw [if_neg ho] at hw; exact absurd rfl hw
theorem on_of {n : Int} {d : DDisk} (h : Fz n d) (hw : wrongD d = 0) : d.2.1 = false := by
  have hm : ¬ d.1 = false := by rw [h.made]; decide
  unfold wrongD at hw
  rw [if_neg hm] at hw
  by_cases ho : d.2.1 = true
  · rw [if_pos ho] at hw; cases hw
  · simpa using ho
theorem Fs.cut {n : Int} {d : DDisk} {f k : Int} (h : Fz n d) : Fs n d (dCut d f k).1 (dCut d f k).2 := by
  have hk := cut_ok (f := f) (n := k) h.ok
  unfold dCut at hk ⊢
  split
  · rename_i hw; exact Fs.wrong h hw
  · rename_i hw
    have ho := on_of h (Decidable.not_not.1 hw)
    obtain ⟨k1, k2, k3⟩ := h.burn ho
    split
    · exact ⟨h, by simp [ho], fun _ => rfl⟩
    · rename_i hf
      rw [if_neg hw, if_neg hf] at hk
      split
      · rename_i hb
        rw [if_pos hb] at hk
        exact ⟨k1.add hk, by show (0 : Int) = 6 ↔ (burnD d).1.2.1 = true; simp [k3 hb], fun q => by cases q⟩
      · rename_i hb
        refine ⟨k1, ?_, fun q => by cases q⟩
        have : (burnD d).1.2.1 = true := by
          cases hc : (burnD d).1.2.1 with
          | true => rfl
          | false => exact absurd (k2.2 hc) hb
        simp [this]
end
section
set_option linter.unusedVariables false
abbrev DRaw := Dref05Raw
abbrev DRDisk := Dref05Disk
def stepOf (r : DRaw) : DStep := (if r.2.1 = true then 1 else 0, r.1, r.2.2.2, r.2.2.1)
def rawOf (s : DStep) : DRaw := (s.2.1, decide (s.1 = 1), s.2.2.2, s.2.2.1)
@[simp] theorem raw_step (r : DRaw) : rawOf (stepOf r) = r := by obtain ⟨f, c, t, b⟩ := r; cases c <;> rfl
theorem step_raw {s : DStep} (h : s.1 = 0 ∨ s.1 = 1) : stepOf (rawOf s) = s := by
  obtain ⟨k, f, b, t⟩ := s
  rcases h with h | h <;> (dsimp only at h; subst h; rfl)
@[simp] theorem raws_steps (l : List DRaw) : (l.map stepOf).map rawOf = l := by
  rw [List.map_map]
  conv => rhs; rw [← List.map_id l]
  congr 1; funext r; exact raw_step r
@[simp] theorem comp_rs : rawOf ∘ stepOf = id := funext raw_step
theorem steps_raws : ∀ {l : List DStep} {q : Dur}, goodL q l → (l.map rawOf).map stepOf = l
  | [], _, _ => rfl
  | s :: l, q, h => by rw [List.map_cons, List.map_cons, step_raw h.1.1, steps_raws h.2]
def fromR (r : DRDisk) : DDisk := (r.1, !r.2.2.2.1, r.2.2.2.2.1, if r.2.2.2.2.1 = true then r.2.2.2.2.2.1 else 0, r.2.2.2.2.2.2, r.2.1, r.2.2.1.map stepOf)
def toR (d : DDisk) (x : Int) : DRDisk := (d.1, d.2.2.2.2.2.1, d.2.2.2.2.2.2.map rawOf, !d.2.1, d.2.2.1, if d.2.2.1 = true then d.2.2.2.1 else x, d.2.2.2.2.1)
/-- A disk without a fuse has none left. -/
def nf (d : DDisk) : Prop := d.2.2.1 = false → d.2.2.2.1 = 0
theorem from_to {d : DDisk} {x : Int} (h : okD d) (hn : nf d) : fromR (toR d x) = d := by
  obtain ⟨m, o, f, n, c, q, l⟩ := d
  have h1 := steps_raws h.1
  unfold nf at hn
  dsimp only at h1 hn
  unfold fromR toR
  dsimp only
  rw [h1]
  cases f
  · simp [hn rfl]
  · simp
theorem nf_from (r : DRDisk) : nf (fromR r) := by
  unfold nf fromR
  dsimp only
  intro h; rw [h]; rfl
section
variable {d : DDisk}
theorem nf_fuse {n : Int} (h : nf d) : nf (dFuse d n).1 := by
  unfold dFuse; split
  · exact h
  · split
    · exact h
    · intro q; cases q
theorem nf_start {k t : Int} (h : nf d) : nf (dStart d k t).1 := by
  unfold dStart; split
  · exact h
  · split
    · exact h
    · intro _; rfl
end
end
section
set_option linter.unusedVariables false
abbrev TSection : Ty := .pair (.int .i64) (.pair (.int .i64) (.sl TCommit))
abbrev DSection := Int × Int × (List DCommit)
instance decSection : DecidableEq DSection := (@instDecidableEqProd _ _ inferInstance (@instDecidableEqProd _ _ inferInstance inferInstance))
theorem open_Section {m : Mem} {cs : List Value} {x0 : Int} {x1 : Int} {x2 : List DCommit} (h : Rd TSection m cs (x0, x1, x2)) : ∃ (A2 : Option Addr), ∃ (c2 : Nat), cs = [(.int .i64 x0 : Value), .int .i64 x1, .slice A2 x2.length c2] ∧ inK .i64 x0 ∧ inK .i64 x1 ∧ Rd (.sl TCommit) m [.slice A2 x2.length c2] x2 := by
  obtain ⟨p1, q1, rfl, u1, w1⟩ := Rd.pair h
  obtain ⟨rfl, z2⟩ := (show _ = _ ∧ _ from u1)
  obtain ⟨p3, q3, rfl, u3, w3⟩ := Rd.pair w1
  obtain ⟨rfl, z4⟩ := (show _ = _ ∧ _ from u3)
  have z5 := w3
  obtain ⟨A5, c5, rfl, _⟩ := Rd.slice1 w3
  exact ⟨A5, c5, rfl, z2, z4, z5⟩
theorem mk_Section {m : Mem} (x0 : Int) (x1 : Int) (x2 : List DCommit) (h0 : inK .i64 x0) (h1 : inK .i64 x1) {v2 : Value} (h2 : Rd (.sl TCommit) m [v2] x2) : Rd TSection m [.int .i64 x0, .int .i64 x1, v2] (x0, x1, x2) := (Rd.mkPair (c1 := [_]) (show Rd (.int .i64) m [_] _ from ⟨rfl, h0⟩) (Rd.mkPair (c1 := [_]) (show Rd (.int .i64) m [_] _ from ⟨rfl, h1⟩) h2))
theorem openO_Section {m : Mem} {cs : List Value} {x0 : Int} {x1 : Int} {x2 : List DCommit} (h : Ow TSection m cs (x0, x1, x2)) : ∃ (A2 : Option Addr), ∃ (c2 : Nat), ∃ (n2 : Mem), cs = [(.int .i64 x0 : Value), .int .i64 x1, .slice A2 x2.length c2] ∧ Seps m [n2] ∧ inK .i64 x0 ∧ inK .i64 x1 ∧ Ow (.sl TCommit) n2 [.slice A2 x2.length c2] x2 := by
  obtain ⟨p1, q1, ma1, mb1, rfl, dj1, la1, lb1, u1, w1⟩ := Ow.pair h
  obtain ⟨rfl, z2⟩ := (show _ = _ ∧ _ from u1)
  obtain ⟨p3, q3, ma3, mb3, rfl, dj3, la3, lb3, u3, w3⟩ := Ow.pair w1
  obtain ⟨rfl, z4⟩ := (show _ = _ ∧ _ from u3)
  have z5 := w3
  obtain ⟨A5, c5, rfl, _⟩ := Ow.slice1 w3
  exact ⟨A5, c5, _, rfl, (Seps.app dj1 la1 lb1 (Seps.nil _) (Seps.app dj3 la3 lb3 (Seps.nil _) (Seps.one (mle_refl _)))), z2, z4, z5⟩
theorem mkO_Section {m : Mem} {n2 : Mem} (x0 : Int) (x1 : Int) (x2 : List DCommit) (hS : Seps m [n2]) (h0 : inK .i64 x0) (h1 : inK .i64 x1) {v2 : Value} (h2 : Ow (.sl TCommit) n2 [v2] x2) : Ow TSection m [.int .i64 x0, .int .i64 x1, v2] (x0, x1, x2) := by
  obtain ⟨e1, la1, lb1, Sa1, Sb1⟩ := Seps.cut (l := []) (r := [n2]) hS
  obtain ⟨e2, la2, lb2, Sa2, Sb2⟩ := Seps.cut (l := []) (r := [n2]) Sb1
  exact (Ow.mkPair (c1 := [_]) e1 la1 lb1 (show Ow (.int .i64) _ [_] _ from ⟨rfl, h0⟩) (Ow.mkPair (c1 := [_]) e2 la2 lb2 (show Ow (.int .i64) _ [_] _ from ⟨rfl, h1⟩) (h2.up (Sb2.1 _ (.head _)))))
end
section
set_option linter.unusedVariables false
def zS : DSection := (0, 0, [])
def sectCheck (s : DSection) : Int := if s.1 < 1 ∨ 1048576 < s.1 ∨ s.2.1 < 0 ∨ s.2.2.length = 0 then 2 else if ¬ (cFollows 1 s.2.1 s.2.2).1 = 0 then (cFollows 1 s.2.1 s.2.2).1 else if s.1 ≤ lastOr 0 s.2.2 then 15 else 0
section
variable {s : DSection} {k : Nat} {x : DCommit}
theorem sect_bad1 (h : s.1 < 1 ∨ 1048576 < s.1 ∨ s.2.1 < 0 ∨ (s.2.2.length : Int) = 0) : sectCheck s = 2 := if_pos (by omega)
theorem sect_bad2 (h1 : ¬ s.1 < 1) (h2 : ¬ 1048576 < s.1) (h3 : ¬ s.2.1 < 0) (h4 : ¬ (s.2.2.length : Int) = 0) (h : ¬ (cFollows 1 s.2.1 s.2.2).1 = 0) : sectCheck s = (cFollows 1 s.2.1 s.2.2).1 := by
  unfold sectCheck; rw [if_neg (by omega), if_pos h]
theorem sect_bad3 (h1 : ¬ s.1 < 1) (h2 : ¬ 1048576 < s.1) (h3 : ¬ s.2.1 < 0) (h4 : ¬ (s.2.2.length : Int) = 0) (h : ¬ ¬ (cFollows 1 s.2.1 s.2.2).1 = 0) (hx : s.2.2[k]? = some x) (h0 : k + 1 = s.2.2.length) (h5 : s.1 ≤ x.1) : sectCheck s = 15 := by
  unfold sectCheck; rw [if_neg (by omega), if_neg h, lastOr_eq hx h0, if_pos h5]
theorem sect_good (h1 : ¬ s.1 < 1) (h2 : ¬ 1048576 < s.1) (h3 : ¬ s.2.1 < 0) (h4 : ¬ (s.2.2.length : Int) = 0) (h : ¬ ¬ (cFollows 1 s.2.1 s.2.2).1 = 0) (hx : s.2.2[k]? = some x) (h0 : k + 1 = s.2.2.length) (h5 : ¬ s.1 ≤ x.1) : sectCheck s = 0 := by
  unfold sectCheck; rw [if_neg (by omega), if_neg h, lastOr_eq hx h0, if_neg h5]
theorem sect_ok (h : sectCheck s = 0) : 1 ≤ s.1 ∧ s.1 ≤ 1048576 ∧ 0 ≤ s.2.1 ∧ 1 ≤ s.2.2.length ∧ (cFollows 1 s.2.1 s.2.2).1 = 0 ∧ lastOr 0 s.2.2 < s.1 := by
  unfold sectCheck at h
  split at h
  · cases h
  · split at h
    · exact absurd h ‹_›
    · split at h
      · cases h
      · rename_i h1 h2 h3
        exact ⟨by omega, by omega, by omega, by omega, Decidable.not_not.1 h2, by omega⟩
theorem sect_commits (h : sectCheck s = 0) : ∀ c ∈ s.2.2, cCheck c = 0 := cFollowsAt_ok (sect_ok h).2.2.2.2.1
theorem sect_fork (h : sectCheck s = 0) : s.2.1 + s.2.2.length ≤ 1048576 := by
  obtain ⟨h1, h2, h3, h4, h5, h6⟩ := sect_ok h
  obtain ⟨x, hx⟩ : ∃ x, s.2.2[s.2.2.length - 1]? = some x := ⟨_, List.getElem?_eq_getElem (by omega)⟩
  have := follows_get h5 hx
  have h7 := cCheck_ok this.2.2.1
  omega
theorem sectCheck_range (s : DSection) : 0 ≤ sectCheck s ∧ sectCheck s ≤ 15 := by
  unfold sectCheck
  split
  · omega
  · split
    · exact cFollowsAt_range _ _ _ _
    · split <;> omega
end
def sectHead (s : DSection) : Bytes := venc s.1.toNat ++ (venc s.2.1.toNat ++ venc s.2.2.length)
def sectEnc (s : DSection) : Bytes := fEnc (sectHead s) ++ cFrames s.2.2
def sectEncode (s : DSection) : Bytes × Int := if sectCheck s = 0 then (sectEnc s, 0) else ([], sectCheck s)
theorem sectEncode_bad {s : DSection} (h : ¬ sectCheck s = 0) : sectEncode s = ([], sectCheck s) := if_neg h
theorem sectEncode_good {s : DSection} (h : ¬ ¬ sectCheck s = 0) : sectEncode s = (sectEnc s, 0) := if_pos (Decidable.not_not.1 h)
theorem sectHead_len {s : DSection} (h : sectCheck s = 0) : (sectHead s).length ≤ 30 := by
  have h1 := sect_ok h
  have h2 := sect_fork h
  have v1 := venc_len (x := s.1.toNat) (by omega)
  have v2 := venc_len (x := s.2.1.toNat) (by omega)
  have v3 := venc_len (x := s.2.2.length) (by omega)
  simp only [sectHead, List.length_append]; omega
theorem sectEnc_len {s : DSection} (h : sectCheck s = 0) : (sectEnc s).length ≤ 40 + 710 * s.2.2.length ∧ s.2.2.length ≤ 1048576 ∧ 1 ≤ (sectEnc s).length := by
  have h1 := sectHead_len h
  have h2 := cFrames_len (sect_commits h)
  have h3 := fEnc_len (r := sectHead s) (by omega)
  have h4 := sect_fork h
  have h5 := sect_ok h
  have h6 := fEnc_pos (sectHead s)
  simp only [sectEnc, List.length_append]; omega
theorem sectEncode_len (s : DSection) : (sectEncode s).1.length ≤ 800000000 ∧ (sectEncode s).1.length ≤ 40 + 710 * s.2.2.length := by
  unfold sectEncode
  split
  · have := sectEnc_len ‹_›; dsimp only; omega
  · simp
def hB1 (B : Bytes) : Bytes := B.drop (sN B 1048576)
def hB2 (B : Bytes) : Bytes := (hB1 B).drop (sN (hB1 B) 1048576)
def hB3 (B : Bytes) : Bytes := (hB2 B).drop (sN (hB2 B) 1048576)
def headS (B : Bytes) : DSection × Int × Bool := if sE B 1048576 = 0 ∧ sE (hB1 B) 1048576 = 0 ∧ sE (hB2 B) 1048576 = 0 then (((sX B 1048576 : Int), (sX (hB1 B) 1048576 : Int), []), (sX (hB2 B) 1048576 : Int), decide (((hB3 B).length : Int) = 0)) else (zS, 0, false)
theorem headS_no1 {B : Bytes} (h : ¬ sE B 1048576 = 0) : headS B = (zS, 0, false) := if_neg fun q => h q.1
theorem headS_no2 {B : Bytes} (h : ¬ sE (hB1 B) 1048576 = 0) : headS B = (zS, 0, false) := if_neg fun q => h q.2.1
theorem headS_no3 {B : Bytes} (h : ¬ sE (hB2 B) 1048576 = 0) : headS B = (zS, 0, false) := if_neg fun q => h q.2.2
theorem headS_yes {B : Bytes} (h : ¬ ¬ sE B 1048576 = 0) (h1 : ¬ ¬ sE (hB1 B) 1048576 = 0) (h2 : ¬ ¬ sE (hB2 B) 1048576 = 0) : headS B = (((sX B 1048576 : Int), (sX (hB1 B) 1048576 : Int), []), (sX (hB2 B) 1048576 : Int), decide (((hB3 B).length : Int) = 0)) :=
  if_pos ⟨Decidable.not_not.1 h, Decidable.not_not.1 h1, Decidable.not_not.1 h2⟩
theorem headS_x2 {B : Bytes} (h : ¬ sE (B.drop (sN B 1048576)) 1048576 = 0) : headS B = (zS, 0, false) := headS_no2 h
theorem headS_x3 {B : Bytes} (h : ¬ sE ((B.drop (sN B 1048576)).drop (sN (B.drop (sN B 1048576)) 1048576)) 1048576 = 0) : headS B = (zS, 0, false) := headS_no3 h
theorem headS_x4 {B : Bytes} (h : ¬ ¬ sE B 1048576 = 0) (h1 : ¬ ¬ sE (B.drop (sN B 1048576)) 1048576 = 0) (h2 : ¬ ¬ sE ((B.drop (sN B 1048576)).drop (sN (B.drop (sN B 1048576)) 1048576)) 1048576 = 0) :
    headS B = (((sX B 1048576 : Int), (sX (B.drop (sN B 1048576)) 1048576 : Int), []), (sX ((B.drop (sN B 1048576)).drop (sN (B.drop (sN B 1048576)) 1048576)) 1048576 : Int), decide (((((B.drop (sN B 1048576)).drop (sN (B.drop (sN B 1048576)) 1048576)).drop (sN ((B.drop (sN B 1048576)).drop (sN (B.drop (sN B 1048576)) 1048576)) 1048576)).length : Int) = 0)) := headS_yes h h1 h2
theorem headS_range (B : Bytes) : 0 ≤ (headS B).2.1 ∧ (headS B).2.1 ≤ 1048576 ∧ 0 ≤ (headS B).1.1 ∧ (headS B).1.1 ≤ 1048576 ∧ 0 ≤ (headS B).1.2.1 ∧ (headS B).1.2.1 ≤ 1048576 ∧ (headS B).1.2.2 = [] := by
  have h1 := (s_bounds B 1048576 (by omega)).2.1 (by omega)
  have h2 := (s_bounds (hB1 B) 1048576 (by omega)).2.1 (by omega)
  have h3 := (s_bounds (hB2 B) 1048576 (by omega)).2.1 (by omega)
  unfold headS
  split
  · dsimp only; exact ⟨by omega, by omega, by omega, by omega, by omega, by omega, rfl⟩
  · exact ⟨by decide, by decide, by decide, by decide, by decide, by decide, rfl⟩
abbrev hR1 (B : Bytes) : Int × RS := rNum B 1048576 (0, false)
theorem fol_ne {e n : Int} {l : List DCommit} (h : ¬ ((cFollows e n l).1 = 0 ∧ (cFollows e n l).2 = 0)) : ¬ (cFollows e n l).1 = 0 := fun q => h (none_iff.2 q)
theorem fol_eq {e n : Int} {l : List DCommit} (h : ¬ ¬ ((cFollows e n l).1 = 0 ∧ (cFollows e n l).2 = 0)) : ¬ ¬ (cFollows e n l).1 = 0 := fun q => h fun r => q r.1
def comGo : Nat → Bytes → List DCommit → Int → Option (List DCommit × Int)
  | 0, _, acc, a => some (acc, a)
  | n + 1, b, acc, a => if ¬ (fRead (b.drop a.toNat)).2.2 = 0 then none else if ¬ (cDecode (fRead (b.drop a.toNat)).1).2 = 0 then none else comGo n b (acc ++ [(cDecode (fRead (b.drop a.toNat)).1).1]) (a + (fRead (b.drop a.toNat)).2.1)
def secRead (b : Bytes) : DSection × Int × Bool :=
  if ¬ (fRead b).2.2 = 0 then (zS, 0, false) else if (headS (fRead b).1).2.2 = false then (zS, 0, false) else
    match comGo (headS (fRead b).1).2.1.toNat b [] (fRead b).2.1 with
    | none => (zS, 0, false)
    | some (cs, a) => (((headS (fRead b).1).1.1, (headS (fRead b).1).1.2.1, cs), a, decide (sectCheck ((headS (fRead b).1).1.1, (headS (fRead b).1).1.2.1, cs) = 0))
section
variable {b : Bytes} {n : Nat} {acc : List DCommit} {a : Int} {p : Option (List DCommit × Int)}
theorem com_no1 (hp : p = comGo n b acc a) (h : 0 < n) (h1 : ¬ (fRead (b.drop a.toNat)).2.2 = 0) : p = none := by
  rw [hp]; obtain ⟨m, rfl⟩ : ∃ m, n = m + 1 := ⟨n - 1, by omega⟩
  exact if_pos h1
theorem com_no2 (hp : p = comGo n b acc a) (h : 0 < n) (h1 : ¬ ¬ (fRead (b.drop a.toNat)).2.2 = 0) (h2 : ¬ (cDecode (fRead (b.drop a.toNat)).1).2 = 0) : p = none := by
  rw [hp]; obtain ⟨m, rfl⟩ : ∃ m, n = m + 1 := ⟨n - 1, by omega⟩
  rw [comGo, if_neg h1, if_pos h2]
theorem com_next (hp : p = comGo n b acc a) (h : 0 < n) (h1 : ¬ ¬ (fRead (b.drop a.toNat)).2.2 = 0) (h2 : ¬ ¬ (cDecode (fRead (b.drop a.toNat)).1).2 = 0) : p = comGo (n - 1) b (acc ++ [(cDecode (fRead (b.drop a.toNat)).1).1]) (a + (fRead (b.drop a.toNat)).2.1) := by
  rw [hp]; obtain ⟨m, rfl⟩ : ∃ m, n = m + 1 := ⟨n - 1, by omega⟩
  rw [comGo, if_neg h1, if_neg h2]; rfl
theorem com_end (hp : p = comGo n b acc a) (h : n = 0) : p = some (acc, a) := by subst h; exact hp
theorem com_read (b : Bytes) (a : Int) (h : 0 ≤ a) (h2 : a ≤ b.length) : 0 ≤ (fRead (b.drop a.toNat)).2.1 ∧ a + (fRead (b.drop a.toNat)).2.1 ≤ b.length := by
  have := fRead_bounds (b.drop a.toNat)
  simp only [List.length_drop] at this
  omega
theorem comGo_bounds : ∀ {n : Nat} {acc : List DCommit} {a : Int} {cs : List DCommit} {e : Int}, 0 ≤ a → a ≤ b.length → comGo n b acc a = some (cs, e) → a ≤ e ∧ e ≤ b.length ∧ cs.length = acc.length + n ∧ ((∀ c ∈ acc, cCheck c = 0) → ∀ c ∈ cs, cCheck c = 0)
  | 0, acc, a, cs, e, h, h2, hp => by cases hp; exact ⟨Int.le_refl _, h2, rfl, fun h => h⟩
  | n + 1, acc, a, cs, e, h, h2, hp => by
    have hb := com_read b a h h2
    unfold comGo at hp
    split at hp
    · cases hp
    · split at hp
      · cases hp
      · rename_i h3 h4
        obtain ⟨k1, k2, k3, k4⟩ := comGo_bounds (by omega) hb.2 hp
        simp only [List.length_append, List.length_cons, List.length_nil] at k3
        refine ⟨by omega, k2, by omega, fun hc => k4 fun c hc2 => ?_⟩
        rcases List.mem_append.1 hc2 with q | q
        · exact hc c q
        · simp only [List.mem_cons, List.not_mem_nil, or_false] at q; subst q
          exact (cDecode_back (Decidable.not_not.1 h4)).1
end
theorem sec_no1 {b : Bytes} (h : ¬ (fRead b).2.2 = 0) : secRead b = (zS, 0, false) := if_pos h
theorem sec_no2 {b : Bytes} (h : (headS (fRead b).1).2.2 = false) : secRead b = (zS, 0, false) := by
  unfold secRead
  by_cases h0 : (fRead b).2.2 = 0
  · rw [if_neg (by simpa using h0), if_pos h]
  · rw [if_pos h0]
theorem sec_no3 {b : Bytes} (h : ¬ ¬ (fRead b).2.2 = 0) (h2 : ¬ (headS (fRead b).1).2.2 = false) (hc : comGo (headS (fRead b).1).2.1.toNat b [] (fRead b).2.1 = none) : secRead b = (zS, 0, false) := by
  unfold secRead; rw [if_neg h, if_neg h2, hc]
theorem sec_yes {b : Bytes} {cs : List DCommit} {a : Int} (h : ¬ ¬ (fRead b).2.2 = 0) (h2 : ¬ (headS (fRead b).1).2.2 = false) (hc : comGo (headS (fRead b).1).2.1.toNat b [] (fRead b).2.1 = some (cs, a)) :
    secRead b = (((headS (fRead b).1).1.1, (headS (fRead b).1).1.2.1, cs), a, decide (sectCheck ((headS (fRead b).1).1.1, (headS (fRead b).1).1.2.1, cs) = 0)) := by
  unfold secRead; rw [if_neg h, if_neg h2, hc]
theorem secRead_bounds (b : Bytes) : 0 ≤ (secRead b).2.1 ∧ (secRead b).2.1 ≤ b.length ∧ ((secRead b).2.2 = true → 1 ≤ (secRead b).2.1 ∧ sectCheck (secRead b).1 = 0) ∧ 0 ≤ (secRead b).1.1 ∧ (secRead b).1.1 ≤ 1048576 ∧ (∀ c ∈ (secRead b).1.2.2, c.2.2.length ≤ 8) ∧ (secRead b).1.2.2.length ≤ 1048576 := by
  have hz : 0 ≤ (zS, (0 : Int), false).2.1 ∧ (zS, (0 : Int), false).2.1 ≤ b.length ∧ ((zS, (0 : Int), false).2.2 = true → 1 ≤ (zS, (0 : Int), false).2.1 ∧ sectCheck (zS, (0 : Int), false).1 = 0) ∧ 0 ≤ (zS, (0 : Int), false).1.1 ∧ (zS, (0 : Int), false).1.1 ≤ 1048576 ∧ (∀ c ∈ (zS, (0 : Int), false).1.2.2, c.2.2.length ≤ 8) ∧ (zS, (0 : Int), false).1.2.2.length ≤ 1048576 :=
    ⟨Int.le_refl _, by simp, (fun h => by cases h), Int.le_refl _, by decide, (fun c h => by cases h), by decide⟩
  by_cases h : (fRead b).2.2 = 0
  · by_cases h2 : (headS (fRead b).1).2.2 = false
    · rw [sec_no2 h2]; exact hz
    · cases hc : comGo (headS (fRead b).1).2.1.toNat b [] (fRead b).2.1 with
      | none => rw [sec_no3 (by simpa using h) h2 hc]; exact hz
      | some p =>
        obtain ⟨cs, a⟩ := p
        have hf := fRead_bounds b
        have hh := headS_range (fRead b).1
        obtain ⟨k1, k2, k3, k4⟩ := comGo_bounds hf.1 hf.2.1 hc
        rw [sec_yes (by simpa using h) h2 hc]
        have := hf.2.2.2.2.1 h
        simp only [List.length_nil] at k3
        refine ⟨by dsimp only; omega, k2, fun q => ⟨by dsimp only; omega, of_decide_eq_true q⟩, hh.2.2.1, hh.2.2.2.1, fun c hc => ?_, by dsimp only; omega⟩
        exact batchCheck_ok (cCheck_ok (k4 (fun _ h => by cases h) c hc)).2.2.2.2
  · rw [sec_no1 h]; exact hz
theorem headS_there {s : DSection} (h : sectCheck s = 0) : headS (sectHead s) = ((s.1, s.2.1, []), (s.2.2.length : Int), true) := by
  have h1 := sect_ok h
  have h2 := sect_fork h
  obtain ⟨a1, a2, a3⟩ := s_there (x := s.1.toNat) (m := 1048576) (by omega) (by omega) (venc s.2.1.toNat ++ venc s.2.2.length)
  obtain ⟨b1, b2, b3⟩ := s_there (x := s.2.1.toNat) (m := 1048576) (by omega) (by omega) (venc s.2.2.length)
  obtain ⟨c1, c2, c3⟩ := s_there (x := s.2.2.length) (m := 1048576) (by omega) (by omega) []
  rw [List.append_nil] at c1 c2 c3
  have e1 : hB1 (sectHead s) = venc s.2.1.toNat ++ venc s.2.2.length := by unfold hB1 sectHead; rw [a2, List.drop_left]
  have e2 : hB2 (sectHead s) = venc s.2.2.length := by unfold hB2; rw [e1, b2, List.drop_left]
  have e3 : hB3 (sectHead s) = [] := by unfold hB3; rw [e2, c2, List.drop_length]
  have q3 : sE (sectHead s) 1048576 = 0 := a3
  rw [headS_yes (by simpa using q3) (by rw [e1]; simpa using b3) (by rw [e2]; simpa using c3), e1, e2, e3, b1, c1, show sX (sectHead s) 1048576 = _ from a1]
  rw [show ((s.1.toNat : Nat) : Int) = s.1 by omega, show ((s.2.1.toNat : Nat) : Int) = s.2.1 by omega]
  rfl
theorem comGo_there : ∀ {l : List DCommit} {b r : Bytes} {a : Nat} {acc : List DCommit}, (∀ c ∈ l, cCheck c = 0) → b.drop a = cFrames l ++ r → comGo l.length b acc (a : Int) = some (acc ++ l, ((a + (cFrames l).length : Nat) : Int))
  | [], b, r, a, acc, _, hd => by simp [comGo, cFrames]
  | c :: l, b, r, a, acc, hc, hd => by
    rw [cFrames_cons, List.append_assoc] at hd
    obtain ⟨k1, k2⟩ := frame_there (hc c (.head _)) (cFrames l ++ r)
    rw [← hd] at k1
    show comGo (l.length + 1) b acc (a : Int) = _
    rw [comGo, Int.toNat_natCast, k1, if_neg (by simp), if_neg (by rw [k2]; simp), k2]
    dsimp only
    have hn : b.drop (a + (cFrame c).length) = cFrames l ++ r := by rw [← List.drop_drop, hd, List.drop_left]
    have ih := comGo_there (acc := acc ++ [c]) (fun x hx => hc x (.tail _ hx)) hn
    rw [← Int.natCast_add, ih, cFrames_cons]
    simp [Nat.add_assoc]
theorem secRead_there {s : DSection} (h : sectCheck s = 0) (r : Bytes) : secRead (sectEnc s ++ r) = (s, ((sectEnc s).length : Int), true) := by
  have hl := sectHead_len h
  have e1 : fRead (sectEnc s ++ r) = (sectHead s, ((fEnc (sectHead s)).length : Int), 0) := by
    unfold sectEnc; rw [List.append_assoc]; exact fRead_there (by omega) _
  have e2 := headS_there h
  have e3 : (sectEnc s ++ r).drop (fEnc (sectHead s)).length = cFrames s.2.2 ++ r := by unfold sectEnc; rw [List.append_assoc, List.drop_left]
  have e4 := comGo_there (acc := []) (sect_commits h) e3
  rw [sec_yes (cs := s.2.2) (a := ((sectEnc s).length : Int)) (by rw [e1]; simp) (by rw [e1, e2]; simp) (by rw [e1, e2]; dsimp only; rw [Int.toNat_natCast, e4]; simp [sectEnc]), e1, e2]
  dsimp only
  rw [decide_eq_true h]
def scanS : Nat → Bytes → List DSection → Int → Int → List DSection × Int
  | 0, _, out, a, _ => (out, a)
  | k + 1, B, out, a, ep => if (secRead (B.drop a.toNat)).2.2 = false ∨ (secRead (B.drop a.toNat)).1.1 ≤ ep then (out, a) else scanS k B (out ++ [(secRead (B.drop a.toNat)).1]) (a + (secRead (B.drop a.toNat)).2.1) (secRead (B.drop a.toNat)).1.1
def scanF (B : Bytes) : List DSection × Int := scanS B.length B [] 0 0
section
variable {B : Bytes} {k : Nat} {out : List DSection} {a ep : Int} {p : List DSection × Int}
theorem scan_end (hp : p = scanS k B out a ep) (h : (secRead (B.drop a.toNat)).2.2 = false ∨ (secRead (B.drop a.toNat)).1.1 ≤ ep) : p = (out, a) := by
  rw [hp]; cases k with
  | zero => rfl
  | succ k => exact if_pos h
theorem scan_next (hp : p = scanS k B out a ep) (ha : 0 ≤ a) (hk : (B.length : Int) - a ≤ k) (h : ¬ (secRead (B.drop a.toNat)).2.2 = false) (h2 : ¬ (secRead (B.drop a.toNat)).1.1 ≤ ep) :
    p = scanS (k - 1) B (out ++ [(secRead (B.drop a.toNat)).1]) (a + (secRead (B.drop a.toNat)).2.1) (secRead (B.drop a.toNat)).1.1 := by
  rw [hp]; cases k with
  | zero =>
    exfalso
    have := secRead_bounds (B.drop a.toNat)
    have h3 := this.2.2.1 (by simpa using h)
    simp only [List.length_drop] at this
    omega
  | succ k => rw [scanS, if_neg (fun q => q.elim h h2)]; rfl
theorem sec_at (B : Bytes) {a : Int} (h : 0 ≤ a) (h2 : a ≤ B.length) : 0 ≤ (secRead (B.drop a.toNat)).2.1 ∧ a + (secRead (B.drop a.toNat)).2.1 ≤ B.length := by
  have := secRead_bounds (B.drop a.toNat)
  simp only [List.length_drop] at this
  omega
end
theorem scanS_bounds {B : Bytes} : ∀ {k : Nat} {out : List DSection} {a ep : Int}, 0 ≤ a → a ≤ B.length → a ≤ (scanS k B out a ep).2 ∧ (scanS k B out a ep).2 ≤ B.length ∧ (scanS k B out a ep).1.length ≤ out.length + k ∧ ((∀ s ∈ out, sectCheck s = 0) → ∀ s ∈ (scanS k B out a ep).1, sectCheck s = 0)
  | 0, out, a, ep, h, h2 => ⟨Int.le_refl _, h2, Nat.le_refl _, fun h => h⟩
  | k + 1, out, a, ep, h, h2 => by
    unfold scanS
    split
    · exact ⟨Int.le_refl _, h2, by dsimp only; omega, fun h => h⟩
    · rename_i h3
      have hb := sec_at B h h2
      have ih := scanS_bounds (k := k) (out := out ++ [(secRead (B.drop a.toNat)).1]) (ep := (secRead (B.drop a.toNat)).1.1) (a := a + (secRead (B.drop a.toNat)).2.1) (by omega) hb.2
      simp only [List.length_append, List.length_cons, List.length_nil] at ih
      refine ⟨by omega, ih.2.1, by omega, fun hs => ih.2.2.2 fun s hs2 => ?_⟩
      rcases List.mem_append.1 hs2 with q | q
      · exact hs s q
      · simp only [List.mem_cons, List.not_mem_nil, or_false] at q; subst q
        exact ((secRead_bounds (B.drop a.toNat)).2.2.1 (by simpa using fun q => h3 (.inl q))).2
theorem scanF_bounds (B : Bytes) : 0 ≤ (scanF B).2 ∧ (scanF B).2 ≤ B.length ∧ (scanF B).1.length ≤ B.length ∧ ∀ s ∈ (scanF B).1, sectCheck s = 0 := by
  have := scanS_bounds (B := B) (k := B.length) (out := []) (a := 0) (ep := 0) (Int.le_refl _) (by omega)
  exact ⟨this.1, this.2.1, by have h := this.2.2.1; rw [List.length_nil, Nat.zero_add] at h; exact h, this.2.2.2 fun _ h => by cases h⟩
/-- is a commit in one of the sections? -/
def hasS (l : List DSection) (e n : Int) : Bool := l.any fun s => s.2.2.any fun c => decide (c.1 = e ∧ c.2.1 = n)
theorem any_yes {α : Type} {l : List α} {f : α → Bool} {k : Nat} {x : α} (hx : l[k]? = some x) (h : f x = true) : l.any f = true := List.any_eq_true.2 ⟨x, List.mem_of_getElem? hx, h⟩
theorem any_next {α : Type} {l : List α} {f : α → Bool} {k : Nat} {x : α} (h : (l.take k).any f = false) (hx : l[k]? = some x) (hf : f x = false) : (l.take (k + 1)).any f = false := by
  rw [take_one hx, List.any_append, h]; simp [hf]
theorem any_end {α : Type} {l : List α} {f : α → Bool} {k : Nat} (h : (l.take k).any f = false) (hk : ¬ (k : Int) < l.length) : l.any f = false := by
  rwa [List.take_of_length_le (by omega)] at h
theorem has_yes {l : List DSection} {k j : Nat} {s : DSection} {c : DCommit} {e n : Int} (hx : l[k]? = some s) (hc : s.2.2[j]? = some c) (h1 : c.1 = e) (h2 : c.2.1 = n) : hasS l e n = true :=
  any_yes hx (any_yes hc (decide_eq_true ⟨h1, h2⟩))
theorem has_end {l : List DSection} {k : Nat} {e n : Int} (h : (l.take k).any (fun s => s.2.2.any fun c => decide (c.1 = e ∧ c.2.1 = n)) = false) (hk : ¬ (k : Int) < l.length) : hasS l e n = false := any_end h hk
section
variable {s : DSection} {b : Bytes} {k : Nat} {x : DCommit}
theorem senc_headA (h : sectCheck s = 0) : fAppend [] (venc s.1.toNat ++ venc s.2.1.toNat ++ venc s.2.2.length) = (fEnc (sectHead s), 0) := by
  have h1 := sectHead_len h
  have e : venc s.1.toNat ++ venc s.2.1.toNat ++ venc s.2.2.length = sectHead s := List.append_assoc ..
  rw [e, fAppend_good (by omega)]; rfl
theorem senc_head0 (h : sectCheck s = 0) : (fAppend [] (venc s.1.toNat ++ venc s.2.1.toNat ++ venc s.2.2.length)).2 = 0 := by rw [senc_headA h]
theorem senc_head1 (h : sectCheck s = 0) : (fAppend [] (venc s.1.toNat ++ venc s.2.1.toNat ++ venc s.2.2.length)).1 ++ cFrames (s.2.2.drop 0) = sectEnc s := by rw [senc_headA h]; rfl
theorem senc_head2 (h : sectCheck s = 0) : (fAppend [] (venc s.1.toNat ++ venc s.2.1.toNat ++ venc s.2.2.length)).1.length ≤ 40 + 710 * 0 := by
  have h1 := sectHead_len h
  have := fEnc_len (r := sectHead s) (by omega)
  rw [senc_headA h]; dsimp only; omega
theorem senc_one (h : sectCheck s = 0) (hx : s.2.2[k]? = some x) : cCheck x = 0 ∧ fAppend b (cEncode x).1 = (b ++ cFrame x, 0) := by
  have h1 := sect_commits h x (List.mem_of_getElem? hx)
  have h2 := cEnc_len h1
  refine ⟨h1, ?_⟩
  unfold cEncode; rw [if_pos h1]; dsimp only
  rw [fAppend_good (by omega)]; rfl
theorem senc_step0 (h : sectCheck s = 0) (hx : s.2.2[k]? = some x) : (fAppend b (cEncode x).1).2 = 0 := by rw [(senc_one h hx).2]
theorem senc_step1 (h : sectCheck s = 0) (hb : b ++ cFrames (s.2.2.drop k) = sectEnc s) (hx : s.2.2[k]? = some x) : (fAppend b (cEncode x).1).1 ++ cFrames (s.2.2.drop (k + 1)) = sectEnc s := by
  rw [(senc_one h hx).2, ← hb, drop_next hx, cFrames_cons, List.append_assoc]
theorem senc_step2 (h : sectCheck s = 0) (hl : b.length ≤ 40 + 710 * k) (hx : s.2.2[k]? = some x) : (fAppend b (cEncode x).1).1.length ≤ 40 + 710 * (k + 1) := by
  have := cFrame_len (senc_one (b := b) h hx).1
  rw [(senc_one h hx).2]; simp only [List.length_append]; omega
end
end
section
section
variable {P : Program} {n : Nat} {w0 : World} {σ : Env} {Ω ΩS : Ctx} {ops : Array Oper} {K : Env → Ctx → Prop}
theorem VD.store {tt q : Nat} {ss : List (Nat × Bool)} {ty : TypeId} {pos : String} {af : Array Edge} {t : TypeId} {x y : Operand} {g off : Nat} {v : Value} {k : Nat} (i : Nat) {c : Array Value} {E : TypeId} {c' : List Value}
    (ho : ops[q]? = some ⟨none, .store t x y, ty, pos, af, none⟩)
    (hx : ev σ x = some (.pointer (some ⟨g, off, none⟩))) (hy : ev σ y = some v) (ht : tk P t = some (some k) ∨ (tk P t = some none ∧ k = 1)) (hk : Nat.beq v.cells.size k = true) (hn : nice v = true)
    (hm : cget Ω i = some (mone g (.cells c E (0, 0)))) (hl : Nat.ble (off + k) c.size = true) (hc : splice c.toList off v.cells.toList = c')
    (hS : ∀ W, Inv w0 (cset Ω i (mone g (.cells c'.toArray E (0, 0)))) W → Inv w0 ΩS W)
    (h : VD P n w0 ops ΩS tt ss σ (cset Ω i (mone g (.cells c'.toArray E (0, 0)))) K) : VD P n w0 ops ΩS tt ((q, false) :: ss) σ Ω K :=
  VD.s (fun _ => σ) ho (fun _ _ he => he) (.inl rfl) (Stp.store i hx hy ht hk hn hm (mone_self _ _) hl) (fun _ _ ⟨_, hΩ⟩ W hW => hS W (by rw [hΩ, mset_one, hc] at hW; exact hW)) (fun _ _ ⟨_, hΩ⟩ => by rw [hΩ, mset_one, hc]; exact h)
end
/-- what a slice of one's own was, is still to be read -/
def KeptA (sz : Nat) (m : Mem) (v : Value) (len : Nat) (cs : List Value) : Prop := ∃ A cap, v = .slice A len cap ∧ len ≤ cap ∧ cap ≤ maxLen ∧ ((len = 0 ∧ cs = []) ∨ ∃ g off, A = some ⟨g, off, none⟩ ∧ cellsAt m g off (len * sz) cs)
section
variable {P : Program} {n : Nat} {w0 : World} {σ : Env} {Ω ΩS : Ctx} {ops : Array Oper} {K : Env → Ctx → Prop}
variable {ty : TypeId} {pos : String} {af : Array Edge} {d : Option Tmp} {gd : Option (Nat × Bool)} {r : List Oper}
theorem Stp.appK {s x : Operand} {t xt e : TypeId} {sz b len k : Nat} {v xv : Value} {cs xs z : List Value} (i : Nat) {m m0 : Mem} (hsv : ev σ s = some v) (hxv : ev σ x = some xv) (ht : tsl P t = some (e, sz, b)) (hz : tz P e = some z) (hzl : z.length = sz)
    (hm : cget Ω i = some m) (hm0 : mle m0 m) (hown : OwnA sz m0 v len cs) (hs' : Src P Ω sz xt xv k xs) (h1 : ∀ u ∈ xs, u.oneCell' = true) (hml : len + k ≤ maxLen) (hb : (len + k) * b ≤ 140737488355328) (hb0 : b ≠ 0) :
    Stp P n w0 σ Ω ⟨d, .call { callee := .builtin .append, args := [s, x].toArray, argTypes := [t, xt].toArray }, ty, pos, af, gd⟩ (fun v' Ω' => ∃ m' mo, mle mo m' ∧ OwnA sz mo v' (len + k) (cs ++ xs) ∧ KeptA sz m' v len cs ∧ Ω' = cset Ω i m') := fun a W he hi K' Q hK => by
  have hs : SrcW P W sz xt xv k xs := hs'.w hi
  have hex : ∀ (res : Value) (W' : World), (Builtin.append_ #[t, xt] ty #[v, xv]).run P W = .ok res W' → (execOp a.eval ⟨d, .call { callee := .builtin .append, args := [s, x].toArray, argTypes := [t, xt].toArray }, ty, pos, af, gd⟩).run P W = .ok (.value res) W' := by
    intro res W' h
    simp [execOp, resolve, invoke, builtin, he.eval hsv, he.eval hxv, h]
  have grow : ∀ (A : Option Addr) (cap : Nat), v = .slice A len cap → (∀ W', W'.heap = W.heap → (Builtin.firstCells sz len (.slice A len cap)).run P W' = .ok cs.toArray W') → cap < len + k → KeptA sz m0 v len cs →
      (⟨d, .call { callee := .builtin .append, args := [s, x].toArray, argTypes := [t, xt].toArray }, ty, pos, af, gd⟩ : Oper).wp P a W K' Q := by
    intro A cap hv hold hgt hkp
    subst hv
    obtain ⟨ncap, rest, hn1, hn2, hr, hrun⟩ := append_grow ht hz hs ty hold hgt hml hb hb0
    unfold Oper.wp
    rw [hex _ _ hrun]
    have hl1 := hown.len_eq
    have hl2 := hs.len
    have hnew : ∀ q o, m0 q = some o → q ≠ W.heap.size := fun q o hq hqq => by
      subst hqq
      have := hi.at hm _ o (hm0 _ o hq)
      unfold wm at this
      simp at this
    have hdj : mdj m0 (mone W.heap.size (.cells (cs ++ xs ++ rest).toArray e (0, 0))) := fun q => by
      by_cases hq : q = W.heap.size
      · left
        cases hmq : m0 q with
        | none => rfl
        | some o => exact absurd hq (hnew q o hmq)
      · exact .inr (mone_ne _ hq)
    refine hK _ _ _ ⟨mun m0 (mone W.heap.size (.cells (cs ++ xs ++ rest).toArray e (0, 0))), mone W.heap.size (.cells (cs ++ xs ++ rest).toArray e (0, 0)), mle_un_right hdj, ?_, ?_, rfl⟩ (hi.set hm rfl rfl rfl (by simp) ?_ (mun_le (fun q o hq => ?_) (mone_le ?_)) fun g => ?_)
    · have hlen : (cs ++ xs ++ rest).length = ncap * sz := by
        simp only [List.length_append, hl1, hl2, hr, hzl, ← Nat.add_mul]
        congr 1; omega
      have := OwnA.row (sz := sz) W.heap.size 0 (len + k) ncap e (cs ++ xs ++ rest) (by rw [hlen]; omega) hn1 hn2
      rw [List.drop_zero, List.take_append_of_le_length (by simp [hl1, hl2, Nat.add_mul]), List.take_of_length_le (by simp [hl1, hl2, Nat.add_mul])] at this
      exact this
    · obtain ⟨A', c', e1, e2, e3, e4⟩ := hkp
      exact ⟨A', c', e1, e2, e3, e4.imp id fun ⟨g, off, q1, q2⟩ => ⟨g, off, q1, q2.mono (mle_un_left _ _)⟩⟩
    · exact (mout_le _ _).trans (wm_alloc W.drew _)
    · exact wm_alloc W.drew _ q o (hi.at hm q o (hm0 q o hq))
    · exact wm_alloc_new W.drew _
    · by_cases hg : g = W.heap.size
      · exact .inr (.inr (Nat.le_of_eq hg.symm))
      · cases hmg : m0 g with
        | none => left; unfold mun; rw [hmg]; exact mone_ne _ hg
        | some o => right; left; rw [hm0 g o hmg]; simp
  cases hown with
  | nil A =>
    by_cases hk : k = 0
    · subst hk
      have hx : xs = [] := List.eq_nil_of_length_eq_zero (by simpa using hs.len)
      subst hx
      unfold Oper.wp
      rw [hex (.slice A 0 0) W (by rw [append_eq ht hs ty (by omega)]; cases A <;> rfl)]
      exact hK _ _ _ ⟨mnil, mnil, mle_refl _, .nil A, ⟨A, 0, rfl, Nat.le_refl _, Nat.zero_le _, .inl ⟨rfl, rfl⟩⟩, rfl⟩ (hi.set hm rfl rfl rfl (Nat.le_refl _) (mout_le _ _) (mle_nil _) fun g => .inl rfl)
    · exact grow A 0 rfl (fun W' _ => by cases A <;> simp [Builtin.firstCells, loadCells, loadCellsFrom]) (by omega) ⟨A, 0, rfl, Nat.le_refl _, Nat.zero_le _, .inl ⟨rfl, rfl⟩⟩
  | row g off len cap E c h1' h2' h3' =>
    have hmul0 := Nat.mul_le_mul_right sz h2'
    have kept0 : ∀ c2 : List Value, c2.length = c.length → (c2.drop off).take (len * sz) = (c.drop off).take (len * sz) → KeptA sz (mone g (.cells c2.toArray E (0, 0))) (.slice (some ⟨g, off, none⟩) len cap) len ((c.drop off).take (len * sz)) := fun c2 hl hc =>
      ⟨_, _, rfl, h2', h3', .inr ⟨g, off, rfl, c2.toArray, E, (0, 0), mone_self _ _, by simp; omega, by simp [hc]⟩⟩
    by_cases hle : len + k ≤ cap
    · have hg := hi.at hm g _ (hm0 g _ (mone_self _ _))
      have hmul := Nat.mul_le_mul_right sz hle
      have hl2 := hs.len
      obtain ⟨W', hrun, ho, htp, hu, hsz, hfar, hgg⟩ := setCells_heap (P := P) xs W g (off + len * sz) c.toArray E (0, 0) hg (by simp [hl2]; rw [Nat.add_mul] at hmul; omega) (Nat.le_refl _) h1 0 (off + len * sz) rfl
      unfold Oper.wp
      rw [hex (.slice (some ⟨g, off, none⟩) (len + k) cap) W' (by rw [append_eq ht hs ty hle]; simp only [add_off, hrun]; rfl)]
      have hsl : splice c (off + len * sz) xs = c.take (off + len * sz) ++ (xs ++ c.drop (off + len * sz + xs.length)) := rfl
      have hlc : (splice c (off + len * sz) xs).length = c.length := by rw [hsl]; simp [hl2]; rw [Nat.add_mul] at hmul; omega
      have e0 : List.drop off (splice c (off + len * sz) xs) = List.take (len * sz) (List.drop off c) ++ (xs ++ c.drop (off + len * sz + xs.length)) := by
        rw [hsl, List.drop_append_of_le_length (by simp; rw [Nat.add_mul] at hmul; omega)]
        congr 1
        rw [List.drop_take]; congr 1; omega
      refine hK _ _ _ ⟨mone g (.cells (splice c (off + len * sz) xs).toArray E (0, 0)), mone g (.cells (splice c (off + len * sz) xs).toArray E (0, 0)), mle_refl _, ?_, kept0 _ hlc ?_, rfl⟩ (hi.set hm ho htp hu (Nat.le_of_eq hsz.symm) ?_ (mone_le hgg) fun g' => ?_)
      · have := OwnA.row (sz := sz) g off (len + k) cap E (splice c (off + len * sz) xs) (by rw [hlc]; exact h1') hle h3'
        have e1 : List.take ((len + k) * sz) (List.drop off (splice c (off + len * sz) xs)) = List.take (len * sz) (List.drop off c) ++ xs := by
          rw [e0, ← List.append_assoc]
          have e3 : (List.take (len * sz) (List.drop off c) ++ xs).length = (len + k) * sz := by
            rw [Nat.add_mul] at hmul ⊢
            simp [hl2]; omega
          rw [← e3]
          exact List.take_left
        rw [e1] at this
        exact this
      · rw [e0]
        have e3 : (List.take (len * sz) (List.drop off c)).length = len * sz := by simp; omega
        rw [List.take_append_of_le_length (by omega), List.take_of_length_le (by omega)]
      · intro q o h
        unfold mout at h
        split at h
        · cases h
        · rename_i hn
          have hne : q ≠ g := by rintro rfl; rw [hm0 _ _ (mone_self _ _)] at hn; cases hn
          unfold wm at h ⊢
          rw [hfar q hne]; exact h
      · by_cases hgg' : g' = g
        · subst hgg'; right; left; rw [hm0 _ _ (mone_self _ _)]; simp
        · exact .inl (mone_ne _ hgg')
    · refine grow (some ⟨g, off, none⟩) cap rfl (fun W' hW' => ?_) (by omega) (kept0 c rfl rfl)
      have hg := hi.at hm g _ (hm0 g _ (mone_self _ _))
      have hmul := Nat.mul_le_mul_right sz h2'
      refine run_loadCells' ⟨c.toArray, E, (0, 0), ?_, by simp; omega, rfl⟩
      unfold wm at hg ⊢
      rw [hW']; exact hg
theorem VO.appK {s x : Operand} {t xt e : TypeId} {sz b len k dd : Nat} {v xv : Value} {cs xs z : List Value} (i : Nat) {m m0 : Mem} (hd : Nat.blt dd n = true) (hsv : ev σ s = some v) (hxv : ev σ x = some xv) (ht : tsl P t = some (e, sz, b)) (hz : tz P e = some z) (hzl : z.length = sz)
    (hm : cget Ω i = some m) (hm0 : mle m0 m) (hown : OwnA sz m0 v len cs) (hs : Src P Ω sz xt xv k xs) (h1 : ∀ u ∈ xs, u.oneCell' = true) (hml : len + k ≤ maxLen) (hb : (len + k) * b ≤ 140737488355328) (hb0 : b ≠ 0)
    (h : ∀ v' m' mo, mle mo m' → OwnA sz mo v' (len + k) (cs ++ xs) → KeptA sz m' v len cs → VO P n w0 ops r ((dd, v') :: σ) (cset Ω i m') K) :
    VO P n w0 ops (⟨some dd, .call { callee := .builtin .append, args := [s, x].toArray, argTypes := [t, xt].toArray }, ty, pos, af, none⟩ :: r) σ Ω K :=
  VO.s hd (Stp.appK i hsv hxv ht hz hzl hm hm0 hown hs h1 hml hb hb0) fun v' _ ⟨m', mo, h0, hp, hk, hΩ⟩ => hΩ ▸ h v' m' mo h0 hp hk
end
theorem KeptA.rd {e : Ty} {m : Mem} {A : Option Addr} {c : Nat} {cs : List Value} {xs : List e.Den} (h : KeptA e.sz m (.slice A xs.length c) xs.length cs) (hc : All2c (Rd e m) cs xs) : Rd (.sl e) m [.slice A xs.length c] xs := by
  obtain ⟨A', c', h1, h2, h3, h4⟩ := h
  simp only [Value.slice.injEq, true_and] at h1
  obtain ⟨rfl, rfl⟩ := h1
  refine ⟨_, _, rfl, h2, h3, ?_⟩
  rcases h4 with ⟨h4, _⟩ | ⟨g, off, h4, h5⟩
  · exact .inl h4
  · exact .inr ⟨g, off, cs, h4, h5, hc⟩
end
section
set_option linter.unusedVariables false
set_option linter.unusedSimpArgs false
set_option maxRecDepth 4000
theorem fnOk51 : fnOk Try.prog 51 = true := by kernel_rfl
theorem fnOk55 : fnOk Try.prog 55 = true := by kernel_rfl
theorem fnOk56 : fnOk Try.prog 56 = true := by kernel_rfl
theorem fnOk60 : fnOk Try.prog 60 = true := by kernel_rfl
theorem fnOk9 : fnOk Try.prog 9 = true := by kernel_rfl
theorem fnOk91 : fnOk Try.prog 91 = true := by kernel_rfl
theorem fnOk92 : fnOk Try.prog 92 = true := by kernel_rfl
theorem fnOk93 : fnOk Try.prog 93 = true := by kernel_rfl
theorem tar80 : tar Try.prog 80 = some (3, 1) := by kernel_rfl
theorem tia80 : tia Try.prog 80 = some (3, 3, 1) := by kernel_rfl
theorem tk24 : tk Try.prog 24 = some (some 3) := by kernel_rfl
theorem tsl41 : tsl Try.prog 41 = some (24, 3, 40) := by kernel_rfl
theorem tst24 : tst Try.prog 24 = some [(0, 1), (1, 1), (2, 1)] := by kernel_rfl
theorem tz24 : tz Try.prog 24 = some [.int .i64 0, .int .i64 0, .slice none 0 0] := by kernel_rfl
theorem tz80 : tz Try.prog 80 = some [.int .i64 0, .int .i64 0, .int .i64 0] := by kernel_rfl
theorem tk22 : tk Try.prog 22 = some none := by kernel_rfl
theorem sectCheck_ok (W : World) {v0 : List Value} {d0 : DSection} (h0 : Rd TSection (wm W) v0 d0) : CallR Try.prog 9 [.agg v0.toArray] W (mnil) (fun v m' => v = .int .i64 (sectCheck d0)) := by
  obtain ⟨p0_A2, p0_c2, rfl, p0_0, p0_1, p0_2⟩ := open_Section (x0 := d0.1) (x1 := d0.2.1) (x2 := d0.2.2) h0
  simp only [inK] at p0_0
  simp only [inK] at p0_1
  have p0_r2 := Rd.room p0_2
  refine CallR.ofA (n := 45) Try.func9 rfl rfl rfl ?_
  refine VC.rs ?_
  refine VO.box (cs := [Value.int .i64 (d0.1), Value.int .i64 (d0.2.1), Value.slice p0_A2 (d0.2.2.length) (p0_c2)]) 102 rfl rfl rfl (fun g1 => ?_)
  refine VO.as ?_
  refine VO.k3 0 1 2 ?_
  refine VC.seq ?_
  refine VC.rs ?_
  refine VO.y rfl (.fa rfl tst24 rfl) ?_
  refine VO.y rfl (.ld1 102 rfl tk3 rfl (cellsAt_one rfl rfl)) ?_
  refine VO.y rfl (.lss rfl rfl) ?_
  refine VO.mv ?_
  refine VO.dec (t := 7) rfl (fun hc3 => ?_) (fun hc3 => ?_)
  · -- T
    refine VO.gN ?_
    refine VO.gN ?_
    refine VO.gN ?_
    refine VO.y rfl (.pT rfl rfl) ?_
    refine VO.mv ?_
    refine VO.gN ?_
    refine VO.gN ?_
    refine VO.gN ?_
    refine VO.y rfl (.pT rfl rfl) ?_
    refine VO.mv ?_
    refine VO.gN ?_
    refine VO.gN ?_
    refine VO.gN ?_
    refine VO.gN ?_
    refine VO.y rfl (.pT rfl rfl) ?_
    refine VO.k4 0 1 2 22 ?_
    refine VC.condT rfl ?_
    refine VC.rs ?_
    refine VO.as ?_
    refine VO.keep [102, 0] [(102, mone g1 (.cells [Value.int .i64 (d0.1), Value.int .i64 (d0.2.1), Value.slice p0_A2 (d0.2.2.length) (p0_c2)].toArray 24 (0, 0))), (0, wm W)] (by kernel_rfl) ?_
    refine VO.k4 0 1 2 22 ?_
    refine VC.ret ?_
    refine outR ?_
    refine ⟨_, _, res_run (rs := [.tmp 2]) rfl (.tmp rfl .nil), fun W_ hI => out_of (l := []) hI [] rfl rfl (mle_refl _) (fun hS_ => ?_)⟩
    dsimp only [packV]
    all_goals (first | rfl | (congr 1; first | exact (sect_bad1 (by omega)).symm | exact (sect_bad2 (by omega) (by omega) (by omega) (by omega) (by first | assumption | exact fol_ne (by assumption) | exact fol_eq (by assumption))).symm | exact (sect_bad3 (by omega) (by omega) (by omega) (by omega) (by first | assumption | exact fol_ne (by assumption) | exact fol_eq (by assumption)) ‹_[_]? = some _› (by omega) (by omega)).symm | exact (sect_good (by omega) (by omega) (by omega) (by omega) (by first | assumption | exact fol_ne (by assumption) | exact fol_eq (by assumption)) ‹_[_]? = some _› (by omega) (by omega)).symm))
  · -- F
    refine VO.gy rfl ⟨_, rfl, rfl⟩ (.fa rfl tst24 rfl) ?_
    refine VO.gy rfl ⟨_, rfl, rfl⟩ (.ld1 102 rfl tk3 rfl (cellsAt_one rfl rfl)) ?_
    refine VO.gy rfl ⟨_, rfl, rfl⟩ (.gtr rfl rfl) ?_
    refine VO.y rfl (.pF rfl rfl) ?_
    refine VO.mv ?_
    refine VO.dec (t := 12) rfl (fun hc4 => ?_) (fun hc4 => ?_)
    · -- FT
      refine VO.gN ?_
      refine VO.gN ?_
      refine VO.gN ?_
      refine VO.y rfl (.pT rfl rfl) ?_
      refine VO.mv ?_
      refine VO.gN ?_
      refine VO.gN ?_
      refine VO.gN ?_
      refine VO.gN ?_
      refine VO.y rfl (.pT rfl rfl) ?_
      refine VO.k4 0 1 2 22 ?_
      refine VC.condT rfl ?_
      refine VC.rs ?_
      refine VO.as ?_
      refine VO.keep [102, 0] [(102, mone g1 (.cells [Value.int .i64 (d0.1), Value.int .i64 (d0.2.1), Value.slice p0_A2 (d0.2.2.length) (p0_c2)].toArray 24 (0, 0))), (0, wm W)] (by kernel_rfl) ?_
      refine VO.k4 0 1 2 22 ?_
      refine VC.ret ?_
      refine outR ?_
      refine ⟨_, _, res_run (rs := [.tmp 2]) rfl (.tmp rfl .nil), fun W_ hI => out_of (l := []) hI [] rfl rfl (mle_refl _) (fun hS_ => ?_)⟩
      dsimp only [packV]
      all_goals (first | rfl | (congr 1; first | exact (sect_bad1 (by omega)).symm | exact (sect_bad2 (by omega) (by omega) (by omega) (by omega) (by first | assumption | exact fol_ne (by assumption) | exact fol_eq (by assumption))).symm | exact (sect_bad3 (by omega) (by omega) (by omega) (by omega) (by first | assumption | exact fol_ne (by assumption) | exact fol_eq (by assumption)) ‹_[_]? = some _› (by omega) (by omega)).symm | exact (sect_good (by omega) (by omega) (by omega) (by omega) (by first | assumption | exact fol_ne (by assumption) | exact fol_eq (by assumption)) ‹_[_]? = some _› (by omega) (by omega)).symm))
    · -- FF
      refine VO.gy rfl ⟨_, rfl, rfl⟩ (.fa rfl tst24 rfl) ?_
      refine VO.gy rfl ⟨_, rfl, rfl⟩ (.ld1 102 rfl tk3 rfl (cellsAt_one rfl rfl)) ?_
      refine VO.gy rfl ⟨_, rfl, rfl⟩ (.lss rfl rfl) ?_
      refine VO.y rfl (.pF rfl rfl) ?_
      refine VO.mv ?_
      refine VO.dec (t := 17) rfl (fun hc5 => ?_) (fun hc5 => ?_)
      · -- FFT
        refine VO.gN ?_
        refine VO.gN ?_
        refine VO.gN ?_
        refine VO.gN ?_
        refine VO.y rfl (.pT rfl rfl) ?_
        refine VO.k4 0 1 2 22 ?_
        refine VC.condT rfl ?_
        refine VC.rs ?_
        refine VO.as ?_
        refine VO.keep [102, 0] [(102, mone g1 (.cells [Value.int .i64 (d0.1), Value.int .i64 (d0.2.1), Value.slice p0_A2 (d0.2.2.length) (p0_c2)].toArray 24 (0, 0))), (0, wm W)] (by kernel_rfl) ?_
        refine VO.k4 0 1 2 22 ?_
        refine VC.ret ?_
        refine outR ?_
        refine ⟨_, _, res_run (rs := [.tmp 2]) rfl (.tmp rfl .nil), fun W_ hI => out_of (l := []) hI [] rfl rfl (mle_refl _) (fun hS_ => ?_)⟩
        dsimp only [packV]
        all_goals (first | rfl | (congr 1; first | exact (sect_bad1 (by omega)).symm | exact (sect_bad2 (by omega) (by omega) (by omega) (by omega) (by first | assumption | exact fol_ne (by assumption) | exact fol_eq (by assumption))).symm | exact (sect_bad3 (by omega) (by omega) (by omega) (by omega) (by first | assumption | exact fol_ne (by assumption) | exact fol_eq (by assumption)) ‹_[_]? = some _› (by omega) (by omega)).symm | exact (sect_good (by omega) (by omega) (by omega) (by omega) (by first | assumption | exact fol_ne (by assumption) | exact fol_eq (by assumption)) ‹_[_]? = some _› (by omega) (by omega)).symm))
      · -- FFF
        refine VO.gy rfl ⟨_, rfl, rfl⟩ (.fa rfl tst24 rfl) ?_
        refine VO.gy rfl ⟨_, rfl, rfl⟩ (.ld1 102 rfl tk22 rfl (cellsAt_one rfl rfl)) ?_
        refine VO.gy rfl ⟨_, rfl, rfl⟩ (.lenS rfl tsl22) ?_
        refine VO.gy rfl ⟨_, rfl, rfl⟩ (.eql rfl rfl) ?_
        refine VO.y rfl (.pF rfl rfl) ?_
        refine VO.k4 0 1 2 22 ?_
        refine VC.cond rfl (fun hc6 => ?_) (fun hc6 => ?_)
        · -- FFFT
          refine VC.rs ?_
          refine VO.as ?_
          refine VO.keep [102, 0] [(102, mone g1 (.cells [Value.int .i64 (d0.1), Value.int .i64 (d0.2.1), Value.slice p0_A2 (d0.2.2.length) (p0_c2)].toArray 24 (0, 0))), (0, wm W)] (by kernel_rfl) ?_
          refine VO.k4 0 1 2 22 ?_
          refine VC.ret ?_
          refine outR ?_
          refine ⟨_, _, res_run (rs := [.tmp 2]) rfl (.tmp rfl .nil), fun W_ hI => out_of (l := []) hI [] rfl rfl (mle_refl _) (fun hS_ => ?_)⟩
          dsimp only [packV]
          all_goals (first | rfl | (congr 1; first | exact (sect_bad1 (by omega)).symm | exact (sect_bad2 (by omega) (by omega) (by omega) (by omega) (by first | assumption | exact fol_ne (by assumption) | exact fol_eq (by assumption))).symm | exact (sect_bad3 (by omega) (by omega) (by omega) (by omega) (by first | assumption | exact fol_ne (by assumption) | exact fol_eq (by assumption)) ‹_[_]? = some _› (by omega) (by omega)).symm | exact (sect_good (by omega) (by omega) (by omega) (by omega) (by first | assumption | exact fol_ne (by assumption) | exact fol_eq (by assumption)) ‹_[_]? = some _› (by omega) (by omega)).symm))
        · -- FFFF
          refine VC.skip ?_
          refine outN ?_
          refine VC.seq ?_
          refine VC.rs ?_
          refine VO.y rfl (.fa rfl tst24 rfl) ?_
          refine VO.y rfl (.ld1 102 rfl tk3 rfl (cellsAt_one rfl rfl)) ?_
          refine VO.y rfl (.fa rfl tst24 rfl) ?_
          refine VO.y rfl (.ld1 102 rfl tk22 rfl (cellsAt_one rfl rfl)) ?_
          refine VO.callN 107 rfl fnOk51 rfl (fun W hW => follows_ok W 1 bdk d0.2.1 bdk (Rd.mono p0_2 (hW.at (i := 0) rfl))) (fun v7 m7 hv7 => ?_)
          obtain ⟨s7_0, rfl, f7_0⟩ := hv7
          obtain ⟨rfl, q7_0_0, q7_0_1⟩ := open_Fault (x0 := (cFollows 1 d0.2.1 d0.2.2).1) (x1 := (cFollows 1 d0.2.1 d0.2.2).2) (f7_0.rd (mle_refl _))
          simp only [inK] at q7_0_0
          simp only [inK] at q7_0_1
          refine VO.alloc 109 rfl tz75 (fun g8 => ?_)
          refine VO.store (k := 2) (c' := [Value.int .i64 ((cFollows 1 d0.2.1 d0.2.2).1), Value.int .i64 ((cFollows 1 d0.2.1 d0.2.2).2)]) 109 rfl rfl (.inl tk75) rfl rfl rfl rfl rfl ?_
          refine VO.keep [109, 102, 0] [(109, mone g8 (.cells [Value.int .i64 ((cFollows 1 d0.2.1 d0.2.2).1), Value.int .i64 ((cFollows 1 d0.2.1 d0.2.2).2)].toArray 75 (0, 0))), (102, mone g1 (.cells [Value.int .i64 (d0.1), Value.int .i64 (d0.2.1), Value.slice p0_A2 (d0.2.2.length) (p0_c2)].toArray 24 (0, 0))), (0, wm W)] (by kernel_rfl) ?_
          refine VO.k5 0 1 2 3 22 ?_
          refine VC.rs ?_
          refine VO.y rfl (.fa rfl tst75 rfl) ?_
          refine VO.y rfl (.ld1 109 rfl tk28 rfl (cellsAt_one rfl rfl)) ?_
          refine VO.y rfl (.neq rfl rfl) ?_
          refine VO.k6 0 1 2 3 22 30 ?_
          refine VC.cond rfl (fun hc10 => ?_) (fun hc10 => ?_)
          · -- FFFFT
            refine VC.rs ?_
            refine VO.y rfl (.fa rfl tst75 rfl) ?_
            refine VO.y rfl (.ld1 109 rfl tk28 rfl (cellsAt_one rfl rfl)) ?_
            refine VO.as ?_
            refine VO.k6 0 1 2 3 22 30 ?_
            refine VC.ret ?_
            refine outR ?_
            refine ⟨_, _, res_run (rs := [.tmp 2]) rfl (.tmp rfl .nil), fun W_ hI => out_of (l := []) hI [] rfl rfl (mle_refl _) (fun hS_ => ?_)⟩
            dsimp only [packV]
            all_goals (first | rfl | (congr 1; first | exact (sect_bad1 (by omega)).symm | exact (sect_bad2 (by omega) (by omega) (by omega) (by omega) (by first | assumption | exact fol_ne (by assumption) | exact fol_eq (by assumption))).symm | exact (sect_bad3 (by omega) (by omega) (by omega) (by omega) (by first | assumption | exact fol_ne (by assumption) | exact fol_eq (by assumption)) ‹_[_]? = some _› (by omega) (by omega)).symm | exact (sect_good (by omega) (by omega) (by omega) (by omega) (by first | assumption | exact fol_ne (by assumption) | exact fol_eq (by assumption)) ‹_[_]? = some _› (by omega) (by omega)).symm))
          · -- FFFFF
            refine VC.skip ?_
            refine outN ?_
            refine VC.seq ?_
            refine VC.seq ?_
            refine VC.regD _ 11 [(0, true), (1, true), (2, true), (3, true), (4, true), (5, true), (6, true), (7, true), (8, true), (9, true), (10, true)] follows (by kernel_rfl) (fun _ h => h.sub [109, 102, 0]) ?_
            refine VD.y rfl rfl (.inl rfl) (.fa rfl tst24 rfl) ?_
            refine VD.y rfl rfl (.inl rfl) (.ld1 102 rfl tk22 rfl (cellsAt_one rfl rfl)) ?_
            refine VD.y rfl rfl (.inl rfl) (.fa rfl tst24 rfl) ?_
            refine VD.y rfl rfl (.inl rfl) (.ld1 102 rfl tk22 rfl (cellsAt_one rfl rfl)) ?_
            refine VD.y rfl rfl (.inl rfl) (.lenS rfl tsl22) ?_
            refine VD.y rfl rfl (.inl rfl) (.sub rfl rfl rfl ⟨bd, bd⟩) ?_
            obtain ⟨x11, hx11⟩ : ∃ z_, (d0.2.2)[(((d0.2.2.length : Nat) : Int) - 1).toNat]? = some z_ := ⟨_, List.getElem?_eq_getElem bd⟩
            obtain ⟨gg11, oo11, ec11, ea11, hce11, hre11⟩ := p0_2.elem hx11
            cases ea11
            obtain ⟨q11_A2, q11_c2, rfl, q11_0, q11_1, q11_2⟩ := open_Commit (x0 := x11.1) (x1 := x11.2.1) (x2 := x11.2.2) hre11
            simp only [inK] at q11_0
            simp only [inK] at q11_1
            have q11_r2 := Rd.room q11_2
            refine VD.y rfl rfl (.inl rfl) (.ixI ((((d0.2.2.length : Nat) : Int) - 1).toNat) rfl rfl tsl22 bd bd) ?_
            refine VD.y rfl rfl (.inl rfl) (.fa rfl tst32 rfl) ?_
            refine VD.y rfl rfl (.inl rfl) (.ld1 0 rfl tk3 rfl (hce11.at1 (j := 0) rfl)) ?_
            refine VD.y rfl rfl (.inl rfl) (.fa rfl tst24 rfl) ?_
            refine VD.y rfl rfl (.inl rfl) (.ld1 102 rfl tk3 rfl (cellsAt_one rfl rfl)) ?_
            refine VD.nil rfl ?_ rfl
            refine VO.y rfl (.geq rfl rfl) ?_
            refine VO.k7 0 1 2 3 22 30 44 ?_
            refine outN ?_
            refine VC.cond rfl (fun hc12 => ?_) (fun hc12 => ?_)
            · -- FFFFFT
              refine VC.rs ?_
              refine VO.as ?_
              refine VO.keep [109, 102, 0] [(109, mone g8 (.cells [Value.int .i64 ((cFollows 1 d0.2.1 d0.2.2).1), Value.int .i64 ((cFollows 1 d0.2.1 d0.2.2).2)].toArray 75 (0, 0))), (102, mone g1 (.cells [Value.int .i64 (d0.1), Value.int .i64 (d0.2.1), Value.slice (some ⟨gg11, oo11, none⟩) (d0.2.2.length) (p0_c2)].toArray 24 (0, 0))), (0, wm W)] (by kernel_rfl) ?_
              refine VO.k7 0 1 2 3 22 30 44 ?_
              refine VC.ret ?_
              refine outR ?_
              refine ⟨_, _, res_run (rs := [.tmp 2]) rfl (.tmp rfl .nil), fun W_ hI => out_of (l := []) hI [] rfl rfl (mle_refl _) (fun hS_ => ?_)⟩
              dsimp only [packV]
              all_goals (first | rfl | (congr 1; first | exact (sect_bad1 (by omega)).symm | exact (sect_bad2 (by omega) (by omega) (by omega) (by omega) (by first | assumption | exact fol_ne (by assumption) | exact fol_eq (by assumption))).symm | exact (sect_bad3 (by omega) (by omega) (by omega) (by omega) (by first | assumption | exact fol_ne (by assumption) | exact fol_eq (by assumption)) ‹_[_]? = some _› (by omega) (by omega)).symm | exact (sect_good (by omega) (by omega) (by omega) (by omega) (by first | assumption | exact fol_ne (by assumption) | exact fol_eq (by assumption)) ‹_[_]? = some _› (by omega) (by omega)).symm))
            · -- FFFFFF
              refine VC.skip ?_
              refine outN ?_
              refine VC.rs ?_
              refine VO.as ?_
              refine VO.keep [109, 102, 0] [(109, mone g8 (.cells [Value.int .i64 ((cFollows 1 d0.2.1 d0.2.2).1), Value.int .i64 ((cFollows 1 d0.2.1 d0.2.2).2)].toArray 75 (0, 0))), (102, mone g1 (.cells [Value.int .i64 (d0.1), Value.int .i64 (d0.2.1), Value.slice (some ⟨gg11, oo11, none⟩) (d0.2.2.length) (p0_c2)].toArray 24 (0, 0))), (0, wm W)] (by kernel_rfl) ?_
              refine VO.k7 0 1 2 3 22 30 44 ?_
              refine VC.ret ?_
              refine ⟨_, _, res_run (rs := [.tmp 2]) rfl (.tmp rfl .nil), fun W_ hI => out_of (l := []) hI [] rfl rfl (mle_refl _) (fun hS_ => ?_)⟩
              dsimp only [packV]
              all_goals (first | rfl | (congr 1; first | exact (sect_bad1 (by omega)).symm | exact (sect_bad2 (by omega) (by omega) (by omega) (by omega) (by first | assumption | exact fol_ne (by assumption) | exact fol_eq (by assumption))).symm | exact (sect_bad3 (by omega) (by omega) (by omega) (by omega) (by first | assumption | exact fol_ne (by assumption) | exact fol_eq (by assumption)) ‹_[_]? = some _› (by omega) (by omega)).symm | exact (sect_good (by omega) (by omega) (by omega) (by omega) (by first | assumption | exact fol_ne (by assumption) | exact fol_eq (by assumption)) ‹_[_]? = some _› (by omega) (by omega)).symm))
theorem sectEncode_ok (W : World) {v0 : List Value} {d0 : DSection} (h0 : Rd TSection (wm W) v0 d0) : CallR Try.prog 16 [.agg v0.toArray] W (mnil) (fun v m' => ∃ (s0 : Value), v = .tuple #[s0, .int .i64 ((sectEncode d0).2)] ∧ Ow (.sl .byte) m' [s0] ((sectEncode d0).1)) := by
  obtain ⟨p0_A2, p0_c2, rfl, p0_0, p0_1, p0_2⟩ := open_Section (x0 := d0.1) (x1 := d0.2.1) (x2 := d0.2.2) h0
  simp only [inK] at p0_0
  simp only [inK] at p0_1
  have p0_r2 := Rd.room p0_2
  refine CallR.ofA (n := 64) Try.func16 rfl rfl rfl ?_
  refine VC.rs ?_
  refine VO.box (cs := [Value.int .i64 (d0.1), Value.int .i64 (d0.2.1), Value.slice p0_A2 (d0.2.2.length) (p0_c2)]) 102 rfl rfl rfl (fun g1 => ?_)
  refine VO.as ?_
  refine VO.as ?_
  refine VO.k4 0 1 2 3 ?_
  refine VC.seq ?_
  refine VC.rs ?_
  refine VO.y rfl (.ldA 102 rfl tk24 rfl (cellsAt_one rfl rfl)) ?_
  refine VO.callN 103 rfl fnOk9 rfl (fun W hW => sectCheck_ok W (Rd.mono h0 (hW.at (i := 0) rfl))) (fun v3 m3 hv3 => ?_)
  subst hv3
  have hfa4 := sectCheck_range d0
  refine VO.as ?_
  refine VO.k5 0 1 2 3 4 ?_
  refine VC.rs ?_
  refine VO.mv ?_
  refine VO.y rfl (.neq rfl rfl) ?_
  refine VO.keep [102, 0] [(102, mone g1 (.cells [Value.int .i64 (d0.1), Value.int .i64 (d0.2.1), Value.slice p0_A2 (d0.2.2.length) (p0_c2)].toArray 24 (0, 0))), (0, wm W)] (by kernel_rfl) ?_
  refine VO.k6 0 1 2 3 4 17 ?_
  refine VC.cond rfl (fun hc5 => ?_) (fun hc5 => ?_)
  · -- T
    refine VC.rs ?_
    refine VO.mv ?_
    refine VO.as ?_
    refine VO.as ?_
    refine VO.k6 0 1 2 3 4 17 ?_
    refine VC.ret ?_
    refine outR ?_
    refine ⟨_, _, res_run (rs := [.tmp 2, .tmp 3]) rfl (.tmp rfl (.tmp rfl .nil)), fun W_ hI => out_of (l := []) hI [] rfl rfl (mle_refl _) (fun hS_ => ?_)⟩
    dsimp only [packV]
    have he0 : ((sectEncode d0).1 : Ty.Den (.sl .byte)) = [] := by first | rfl | (first | (rw [sectEncode_bad (by assumption)] <;> rfl) | (rw [sectEncode_good (by assumption)] <;> first | rfl | (dsimp only; rw [← hb, List.drop_of_length_le (by omega)]; simp [cFrames]; done) | (dsimp only; rw [he]; done)))
    refine ⟨Value.slice none (0) (0), ?_, ?_⟩
    rotate_left
    · rw [he0]; exact (Ow.nil _ _)
    all_goals (first | rfl | (first | (rw [sectEncode_bad (by assumption)] <;> rfl) | (rw [sectEncode_good (by assumption)] <;> first | rfl | (dsimp only; rw [← hb, List.drop_of_length_le (by omega)]; simp [cFrames]; done) | (dsimp only; rw [he]; done))))
  · -- F
    refine VC.skip ?_
    refine outN ?_
    refine VC.rs ?_
    refine VO.as ?_
    refine VO.k7 0 1 2 3 4 5 17 ?_
    refine VC.seq ?_
    refine VC.rs ?_
    refine VO.y rfl (.fa rfl tst24 rfl) ?_
    refine VO.y rfl (.ld1 102 rfl tk3 rfl (cellsAt_one rfl rfl)) ?_
    refine VO.y rfl (.fa rfl tst24 rfl) ?_
    refine VO.y rfl (.ld1 102 rfl tk3 rfl (cellsAt_one rfl rfl)) ?_
    refine VO.y rfl (.fa rfl tst24 rfl) ?_
    refine VO.y rfl (.ld1 102 rfl tk22 rfl (cellsAt_one rfl rfl)) ?_
    refine VO.y rfl (.lenS rfl tsl22) ?_
    refine VO.y rfl (.bar (cs := [Value.int .i64 (d0.1), Value.int .i64 (d0.2.1), Value.int .i64 (((d0.2.2.length : Nat) : Int))]) rfl tar80 tz80 rfl) ?_
    refine VO.mv ?_
    refine VO.k9 0 1 2 3 4 5 17 26 27 ?_
    refine VC.block ?_
    refine VC.rounds 5 (VRounds.step ?_)
    refine VC.rs ?_
    refine VO.y rfl (.lss rfl rfl) ?_
    refine VO.keep [102, 0] [(102, mone g1 (.cells [Value.int .i64 (d0.1), Value.int .i64 (d0.2.1), Value.slice p0_A2 (d0.2.2.length) (p0_c2)].toArray 24 (0, 0))), (0, wm W)] (by kernel_rfl) ?_
    refine VO.k10 0 1 2 3 4 5 17 26 27 28 ?_
    refine VC.seq ?_
    refine VC.condKT rfl (decide_eq_true (by decide)) ?_
    refine VC.skip ?_
    refine outN ?_
    refine VC.seq ?_
    refine VC.block ?_
    refine VC.rs ?_
    refine VO.y rfl (.ix1V rfl rfl tia80 tk3 rfl rfl rfl) ?_
    refine VO.as ?_
    refine VO.k11 0 1 2 3 4 5 7 17 26 27 28 ?_
    refine VC.reg ?_
    refine VO.mv ?_
    refine VO.mv ?_
    refine VO.y rfl (.cvI (c := ((d0.1).toNat : Int)) rfl ⟨_, Try.underlying3⟩ Try.underlying82 (by rw [IntWalk.u64_in _ (by first | omega | (simp only [List.length_append, List.length_nil, List.length_cons, List.length_take, List.length_drop] at *; omega) | (have h_ := sect_ok (Decidable.not_not.1 ‹¬ ¬ sectCheck d0 = 0›); have h2_ := sect_fork (Decidable.not_not.1 ‹¬ ¬ sectCheck d0 = 0›); omega) | (have h_ := sect_ok (Decidable.not_not.1 ‹¬ ¬ sectCheck d0 = 0›); have h2_ := sect_fork (Decidable.not_not.1 ‹¬ ¬ sectCheck d0 = 0›); simp only [List.length_append, List.length_nil, List.length_cons, List.length_take, List.length_drop] at *; omega))]; first | omega | (first | omega | (simp only [List.length_append, List.length_nil, List.length_cons, List.length_take, List.length_drop] at *; omega) | (have h_ := sect_ok (Decidable.not_not.1 ‹¬ ¬ sectCheck d0 = 0›); have h2_ := sect_fork (Decidable.not_not.1 ‹¬ ¬ sectCheck d0 = 0›); omega) | (have h_ := sect_ok (Decidable.not_not.1 ‹¬ ¬ sectCheck d0 = 0›); have h2_ := sect_fork (Decidable.not_not.1 ‹¬ ¬ sectCheck d0 = 0›); simp only [List.length_append, List.length_nil, List.length_cons, List.length_take, List.length_drop] at *; omega)))) ?_
    refine VO.callN 106 rfl fnOk54 rfl (fun W hW => vAppend_ok W (Rd.nil _ _ none 0 (Nat.zero_le _)) ((d0.1).toNat) (by first | omega | (simp only [List.length_append, List.length_nil, List.length_cons, List.length_take, List.length_drop] at *; omega) | (have h_ := sect_ok (Decidable.not_not.1 ‹¬ ¬ sectCheck d0 = 0›); have h2_ := sect_fork (Decidable.not_not.1 ‹¬ ¬ sectCheck d0 = 0›); omega) | (have h_ := sect_ok (Decidable.not_not.1 ‹¬ ¬ sectCheck d0 = 0›); have h2_ := sect_fork (Decidable.not_not.1 ‹¬ ¬ sectCheck d0 = 0›); simp only [List.length_append, List.length_nil, List.length_cons, List.length_take, List.length_drop] at *; omega)) (by first | omega | (simp only [List.length_append, List.length_nil, List.length_cons, List.length_take, List.length_drop] at *; omega) | (have h_ := sect_ok (Decidable.not_not.1 ‹¬ ¬ sectCheck d0 = 0›); have h2_ := sect_fork (Decidable.not_not.1 ‹¬ ¬ sectCheck d0 = 0›); omega) | (have h_ := sect_ok (Decidable.not_not.1 ‹¬ ¬ sectCheck d0 = 0›); have h2_ := sect_fork (Decidable.not_not.1 ‹¬ ¬ sectCheck d0 = 0›); simp only [List.length_append, List.length_nil, List.length_cons, List.length_take, List.length_drop] at *; omega))) (fun v6 m6 hv6 => ?_)
    obtain ⟨s6_0, rfl, f6_0⟩ := hv6
    have hfa7 := venc_len (x := ((d0.1).toNat)) (by first | omega | exact or64 (by assumption) _)
    simp only [List.nil_append] at f6_0
    obtain ⟨A6_0, c6_0, eq6_0, l6_0, k6_0⟩ := f6_0.slice
    subst eq6_0
    simp only [maxLen] at k6_0
    refine VO.as ?_
    refine VO.k11 0 1 2 3 4 5 7 17 26 27 28 ?_
    refine outBN ?_
    refine outN ?_
    refine VC.reg ?_
    refine VO.y rfl (.add (c := ((1 : Nat) : Int)) rfl rfl (by omega) ⟨by first | omega | (simp only [List.length_append, List.length_nil, List.length_cons, List.length_take, List.length_drop] at *; omega) | (have h_ := sect_ok (Decidable.not_not.1 ‹¬ ¬ sectCheck d0 = 0›); have h2_ := sect_fork (Decidable.not_not.1 ‹¬ ¬ sectCheck d0 = 0›); omega) | (have h_ := sect_ok (Decidable.not_not.1 ‹¬ ¬ sectCheck d0 = 0›); have h2_ := sect_fork (Decidable.not_not.1 ‹¬ ¬ sectCheck d0 = 0›); simp only [List.length_append, List.length_nil, List.length_cons, List.length_take, List.length_drop] at *; omega), by first | omega | (simp only [List.length_append, List.length_nil, List.length_cons, List.length_take, List.length_drop] at *; omega) | (have h_ := sect_ok (Decidable.not_not.1 ‹¬ ¬ sectCheck d0 = 0›); have h2_ := sect_fork (Decidable.not_not.1 ‹¬ ¬ sectCheck d0 = 0›); omega) | (have h_ := sect_ok (Decidable.not_not.1 ‹¬ ¬ sectCheck d0 = 0›); have h2_ := sect_fork (Decidable.not_not.1 ‹¬ ¬ sectCheck d0 = 0›); simp only [List.length_append, List.length_nil, List.length_cons, List.length_take, List.length_drop] at *; omega)⟩) ?_
    refine VO.mv ?_
    refine VO.keep [106, 102, 0] [(106, m6), (102, mone g1 (.cells [Value.int .i64 (d0.1), Value.int .i64 (d0.2.1), Value.slice p0_A2 (d0.2.2.length) (p0_c2)].toArray 24 (0, 0))), (0, wm W)] (by kernel_rfl) ?_
    refine VO.k11 0 1 2 3 4 5 7 17 26 27 28 ?_
    refine outN (VRounds.step ?_)
    refine VC.rs ?_
    refine VO.y rfl (.lss rfl rfl) ?_
    refine VO.k11 0 1 2 3 4 5 7 17 26 27 28 ?_
    refine VC.seq ?_
    refine VC.condKT rfl (decide_eq_true (by decide)) ?_
    refine VC.skip ?_
    refine outN ?_
    refine VC.seq ?_
    refine VC.block ?_
    refine VC.rs ?_
    refine VO.y rfl (.ix1V rfl rfl tia80 tk3 rfl rfl rfl) ?_
    refine VO.as ?_
    refine VO.k11 0 1 2 3 4 5 7 17 26 27 28 ?_
    refine VC.reg ?_
    refine VO.mv ?_
    refine VO.mv ?_
    refine VO.y rfl (.cvI (c := ((d0.2.1).toNat : Int)) rfl ⟨_, Try.underlying3⟩ Try.underlying82 (by rw [IntWalk.u64_in _ (by first | omega | (simp only [List.length_append, List.length_nil, List.length_cons, List.length_take, List.length_drop] at *; omega) | (have h_ := sect_ok (Decidable.not_not.1 ‹¬ ¬ sectCheck d0 = 0›); have h2_ := sect_fork (Decidable.not_not.1 ‹¬ ¬ sectCheck d0 = 0›); omega) | (have h_ := sect_ok (Decidable.not_not.1 ‹¬ ¬ sectCheck d0 = 0›); have h2_ := sect_fork (Decidable.not_not.1 ‹¬ ¬ sectCheck d0 = 0›); simp only [List.length_append, List.length_nil, List.length_cons, List.length_take, List.length_drop] at *; omega))]; first | omega | (first | omega | (simp only [List.length_append, List.length_nil, List.length_cons, List.length_take, List.length_drop] at *; omega) | (have h_ := sect_ok (Decidable.not_not.1 ‹¬ ¬ sectCheck d0 = 0›); have h2_ := sect_fork (Decidable.not_not.1 ‹¬ ¬ sectCheck d0 = 0›); omega) | (have h_ := sect_ok (Decidable.not_not.1 ‹¬ ¬ sectCheck d0 = 0›); have h2_ := sect_fork (Decidable.not_not.1 ‹¬ ¬ sectCheck d0 = 0›); simp only [List.length_append, List.length_nil, List.length_cons, List.length_take, List.length_drop] at *; omega)))) ?_
    refine VO.callN 108 rfl fnOk54 rfl (fun W hW => vAppend_ok W (OwnL.rd (Ow.ownl f6_0 rfl mnil) (hW.at (i := 106) rfl) (mle_nil _)) ((d0.2.1).toNat) (by first | omega | (simp only [List.length_append, List.length_nil, List.length_cons, List.length_take, List.length_drop] at *; omega) | (have h_ := sect_ok (Decidable.not_not.1 ‹¬ ¬ sectCheck d0 = 0›); have h2_ := sect_fork (Decidable.not_not.1 ‹¬ ¬ sectCheck d0 = 0›); omega) | (have h_ := sect_ok (Decidable.not_not.1 ‹¬ ¬ sectCheck d0 = 0›); have h2_ := sect_fork (Decidable.not_not.1 ‹¬ ¬ sectCheck d0 = 0›); simp only [List.length_append, List.length_nil, List.length_cons, List.length_take, List.length_drop] at *; omega)) (by first | omega | (simp only [List.length_append, List.length_nil, List.length_cons, List.length_take, List.length_drop] at *; omega) | (have h_ := sect_ok (Decidable.not_not.1 ‹¬ ¬ sectCheck d0 = 0›); have h2_ := sect_fork (Decidable.not_not.1 ‹¬ ¬ sectCheck d0 = 0›); omega) | (have h_ := sect_ok (Decidable.not_not.1 ‹¬ ¬ sectCheck d0 = 0›); have h2_ := sect_fork (Decidable.not_not.1 ‹¬ ¬ sectCheck d0 = 0›); simp only [List.length_append, List.length_nil, List.length_cons, List.length_take, List.length_drop] at *; omega))) (fun v8 m8 hv8 => ?_)
    obtain ⟨s8_0, rfl, f8_0⟩ := hv8
    have hfa9 := venc_len (x := ((d0.2.1).toNat)) (by first | omega | exact or64 (by assumption) _)
    obtain ⟨A8_0, c8_0, eq8_0, l8_0, k8_0⟩ := f8_0.slice
    subst eq8_0
    simp only [maxLen] at k8_0
    refine VO.as ?_
    refine VO.keep [108, 102, 0] [(108, m8), (102, mone g1 (.cells [Value.int .i64 (d0.1), Value.int .i64 (d0.2.1), Value.slice p0_A2 (d0.2.2.length) (p0_c2)].toArray 24 (0, 0))), (0, wm W)] (by kernel_rfl) ?_
    refine VO.k11 0 1 2 3 4 5 7 17 26 27 28 ?_
    refine outBN ?_
    refine outN ?_
    refine VC.reg ?_
    refine VO.y rfl (.add (c := ((2 : Nat) : Int)) rfl rfl (by omega) ⟨by first | omega | (simp only [List.length_append, List.length_nil, List.length_cons, List.length_take, List.length_drop] at *; omega) | (have h_ := sect_ok (Decidable.not_not.1 ‹¬ ¬ sectCheck d0 = 0›); have h2_ := sect_fork (Decidable.not_not.1 ‹¬ ¬ sectCheck d0 = 0›); omega) | (have h_ := sect_ok (Decidable.not_not.1 ‹¬ ¬ sectCheck d0 = 0›); have h2_ := sect_fork (Decidable.not_not.1 ‹¬ ¬ sectCheck d0 = 0›); simp only [List.length_append, List.length_nil, List.length_cons, List.length_take, List.length_drop] at *; omega), by first | omega | (simp only [List.length_append, List.length_nil, List.length_cons, List.length_take, List.length_drop] at *; omega) | (have h_ := sect_ok (Decidable.not_not.1 ‹¬ ¬ sectCheck d0 = 0›); have h2_ := sect_fork (Decidable.not_not.1 ‹¬ ¬ sectCheck d0 = 0›); omega) | (have h_ := sect_ok (Decidable.not_not.1 ‹¬ ¬ sectCheck d0 = 0›); have h2_ := sect_fork (Decidable.not_not.1 ‹¬ ¬ sectCheck d0 = 0›); simp only [List.length_append, List.length_nil, List.length_cons, List.length_take, List.length_drop] at *; omega)⟩) ?_
    refine VO.mv ?_
    refine VO.k11 0 1 2 3 4 5 7 17 26 27 28 ?_
    refine outN (VRounds.step ?_)
    refine VC.rs ?_
    refine VO.y rfl (.lss rfl rfl) ?_
    refine VO.k11 0 1 2 3 4 5 7 17 26 27 28 ?_
    refine VC.seq ?_
    refine VC.condKT rfl (decide_eq_true (by decide)) ?_
    refine VC.skip ?_
    refine outN ?_
    refine VC.seq ?_
    refine VC.block ?_
    refine VC.rs ?_
    refine VO.y rfl (.ix1V rfl rfl tia80 tk3 rfl rfl rfl) ?_
    refine VO.as ?_
    refine VO.keep [108, 102, 0] [(108, m8), (102, mone g1 (.cells [Value.int .i64 (d0.1), Value.int .i64 (d0.2.1), Value.slice p0_A2 (d0.2.2.length) (p0_c2)].toArray 24 (0, 0))), (0, wm W)] (by kernel_rfl) ?_
    refine VO.k11 0 1 2 3 4 5 7 17 26 27 28 ?_
    refine VC.reg ?_
    refine VO.mv ?_
    refine VO.mv ?_
    refine VO.y rfl (.cvI rfl ⟨_, Try.underlying3⟩ Try.underlying82 (IntWalk.u64_in _ (by first | omega | (simp only [List.length_append, List.length_nil, List.length_cons, List.length_take, List.length_drop] at *; omega) | (have h_ := sect_ok (Decidable.not_not.1 ‹¬ ¬ sectCheck d0 = 0›); have h2_ := sect_fork (Decidable.not_not.1 ‹¬ ¬ sectCheck d0 = 0›); omega) | (have h_ := sect_ok (Decidable.not_not.1 ‹¬ ¬ sectCheck d0 = 0›); have h2_ := sect_fork (Decidable.not_not.1 ‹¬ ¬ sectCheck d0 = 0›); simp only [List.length_append, List.length_nil, List.length_cons, List.length_take, List.length_drop] at *; omega)))) ?_
    refine VO.callN 110 rfl fnOk54 rfl (fun W hW => vAppend_ok W (OwnL.rd (Ow.ownl f8_0 rfl mnil) (hW.at (i := 108) rfl) (mle_nil _)) d0.2.2.length (by first | omega | (simp only [List.length_append, List.length_nil, List.length_cons, List.length_take, List.length_drop] at *; omega) | (have h_ := sect_ok (Decidable.not_not.1 ‹¬ ¬ sectCheck d0 = 0›); have h2_ := sect_fork (Decidable.not_not.1 ‹¬ ¬ sectCheck d0 = 0›); omega) | (have h_ := sect_ok (Decidable.not_not.1 ‹¬ ¬ sectCheck d0 = 0›); have h2_ := sect_fork (Decidable.not_not.1 ‹¬ ¬ sectCheck d0 = 0›); simp only [List.length_append, List.length_nil, List.length_cons, List.length_take, List.length_drop] at *; omega)) (by first | omega | (simp only [List.length_append, List.length_nil, List.length_cons, List.length_take, List.length_drop] at *; omega) | (have h_ := sect_ok (Decidable.not_not.1 ‹¬ ¬ sectCheck d0 = 0›); have h2_ := sect_fork (Decidable.not_not.1 ‹¬ ¬ sectCheck d0 = 0›); omega) | (have h_ := sect_ok (Decidable.not_not.1 ‹¬ ¬ sectCheck d0 = 0›); have h2_ := sect_fork (Decidable.not_not.1 ‹¬ ¬ sectCheck d0 = 0›); simp only [List.length_append, List.length_nil, List.length_cons, List.length_take, List.length_drop] at *; omega))) (fun v10 m10 hv10 => ?_)
    obtain ⟨s10_0, rfl, f10_0⟩ := hv10
    have hfa11 := venc_len (x := d0.2.2.length) (by first | omega | exact or64 (by assumption) _)
    obtain ⟨A10_0, c10_0, eq10_0, l10_0, k10_0⟩ := f10_0.slice
    subst eq10_0
    simp only [maxLen] at k10_0
    refine VO.as ?_
    refine VO.k11 0 1 2 3 4 5 7 17 26 27 28 ?_
    refine outBN ?_
    refine outN ?_
    refine VC.reg ?_
    refine VO.y rfl (.add (c := ((3 : Nat) : Int)) rfl rfl (by omega) ⟨by first | omega | (simp only [List.length_append, List.length_nil, List.length_cons, List.length_take, List.length_drop] at *; omega) | (have h_ := sect_ok (Decidable.not_not.1 ‹¬ ¬ sectCheck d0 = 0›); have h2_ := sect_fork (Decidable.not_not.1 ‹¬ ¬ sectCheck d0 = 0›); omega) | (have h_ := sect_ok (Decidable.not_not.1 ‹¬ ¬ sectCheck d0 = 0›); have h2_ := sect_fork (Decidable.not_not.1 ‹¬ ¬ sectCheck d0 = 0›); simp only [List.length_append, List.length_nil, List.length_cons, List.length_take, List.length_drop] at *; omega), by first | omega | (simp only [List.length_append, List.length_nil, List.length_cons, List.length_take, List.length_drop] at *; omega) | (have h_ := sect_ok (Decidable.not_not.1 ‹¬ ¬ sectCheck d0 = 0›); have h2_ := sect_fork (Decidable.not_not.1 ‹¬ ¬ sectCheck d0 = 0›); omega) | (have h_ := sect_ok (Decidable.not_not.1 ‹¬ ¬ sectCheck d0 = 0›); have h2_ := sect_fork (Decidable.not_not.1 ‹¬ ¬ sectCheck d0 = 0›); simp only [List.length_append, List.length_nil, List.length_cons, List.length_take, List.length_drop] at *; omega)⟩) ?_
    refine VO.mv ?_
    refine VO.k11 0 1 2 3 4 5 7 17 26 27 28 ?_
    refine outN (VRounds.step ?_)
    refine VC.rs ?_
    refine VO.y rfl (.lss rfl rfl) ?_
    refine VO.keep [110, 102, 0] [(110, m10), (102, mone g1 (.cells [Value.int .i64 (d0.1), Value.int .i64 (d0.2.1), Value.slice p0_A2 (d0.2.2.length) (p0_c2)].toArray 24 (0, 0))), (0, wm W)] (by kernel_rfl) ?_
    refine VO.k11 0 1 2 3 4 5 7 17 26 27 28 ?_
    refine VC.seq ?_
    refine VC.condKF rfl (decide_eq_false (by decide)) ?_
    refine VC.exit ?_
    refine outE ?_
    refine outE ?_
    refine outBB ?_
    refine outN ?_
    refine VC.rs ?_
    refine VO.mv ?_
    refine VO.callN 112 rfl fnOk55 rfl (fun W hW => fAppend_ok W (Rd.nil _ _ none 0 (Nat.zero_le _)) (OwnL.rd (Ow.ownl f10_0 rfl mnil) (hW.at (i := 110) rfl) (mle_nil _)) (by first | omega | (simp only [List.length_append, List.length_nil, List.length_cons, List.length_take, List.length_drop] at *; omega) | (have h_ := sect_ok (Decidable.not_not.1 ‹¬ ¬ sectCheck d0 = 0›); have h2_ := sect_fork (Decidable.not_not.1 ‹¬ ¬ sectCheck d0 = 0›); omega) | (have h_ := sect_ok (Decidable.not_not.1 ‹¬ ¬ sectCheck d0 = 0›); have h2_ := sect_fork (Decidable.not_not.1 ‹¬ ¬ sectCheck d0 = 0›); simp only [List.length_append, List.length_nil, List.length_cons, List.length_take, List.length_drop] at *; omega))) (fun v12 m12 hv12 => ?_)
    obtain ⟨s12_0, rfl, f12_0⟩ := hv12
    have hfa13 := fAppend_len [] (((venc ((d0.1).toNat)) ++ venc ((d0.2.1).toNat)) ++ venc d0.2.2.length)
    have hfa14 := fAppend_range [] (((venc ((d0.1).toNat)) ++ venc ((d0.2.1).toNat)) ++ venc d0.2.2.length)
    obtain ⟨A12_0, c12_0, eq12_0, l12_0, k12_0⟩ := f12_0.slice
    subst eq12_0
    simp only [maxLen] at k12_0
    refine VO.mv ?_
    refine VO.y rfl (.ext rfl rfl) ?_
    refine VO.y rfl (.ext rfl rfl) ?_
    refine VO.as ?_
    refine VO.as ?_
    refine VO.k13 0 1 2 3 4 5 7 8 9 17 26 27 28 ?_
    refine VC.seq ?_
    refine VC.rs ?_
    refine VO.y rfl (.fa rfl tst24 rfl) ?_
    refine VO.y rfl (.ld1 102 rfl tk22 rfl (cellsAt_one rfl rfl)) ?_
    refine VO.y rfl (.lenS rfl tsl22) ?_
    refine VO.mv ?_
    refine VO.k16 0 1 2 3 4 5 7 8 9 17 26 27 28 41 42 43 ?_
    refine VC.block ?_
    refine VC.loop (G := Nat × (List UInt8) × (Option Addr) × Nat × Mem × Int) (fun g => [(8, Value.slice (g.2.2.1) ((g.2.1).length) ((g.2.2.2.1))), (9, Value.int .i64 ((g.2.2.2.2.2))), (43, Value.int .i64 ((((g.1) : Nat) : Int))), (0, Value.agg [Value.int .i64 (d0.1), Value.int .i64 (d0.2.1), Value.slice p0_A2 (d0.2.2.length) (p0_c2)].toArray), (1, Value.pointer (some ⟨g1, 0, none⟩)), (4, Value.int .i64 (sectCheck d0)), (5, Value.slice A10_0 ((((venc ((d0.1).toNat)) ++ venc ((d0.2.1).toNat)) ++ venc d0.2.2.length).length) (c10_0)), (7, Value.int .i64 (((d0.2.2.length : Nat) : Int))), (17, Value.bool (decide (¬ (sectCheck d0) = 0))), (26, Value.agg [Value.int .i64 (d0.1), Value.int .i64 (d0.2.1), Value.int .i64 (((d0.2.2.length : Nat) : Int))].toArray), (27, Value.int .i64 (((3 : Nat) : Int))), (28, Value.bool (decide (((3 : Nat) : Int) < 3))), (41, Value.slice p0_A2 (d0.2.2.length) (p0_c2)), (42, Value.int .i64 (((d0.2.2.length : Nat) : Int)))]) (fun g => [(112, (g.2.2.2.2.1)), (110, m10), (102, mone g1 (.cells [Value.int .i64 (d0.1), Value.int .i64 (d0.2.1), Value.slice p0_A2 (d0.2.2.length) (p0_c2)].toArray 24 (0, 0))), (0, wm W)]) (fun g => ((g.1) ≤ d0.2.2.length) ∧ ((g.2.2.2.2.2) = 0) ∧ ((g.2.1) ++ cFrames (d0.2.2.drop (g.1)) = sectEnc d0) ∧ ((g.2.1).length ≤ 40 + 710 * (g.1)) ∧ (OwnL .byte (g.2.2.2.2.1) mnil (.slice (g.2.2.1) (g.2.1).length (g.2.2.2.1)) (g.2.1))) (fun g => d0.2.2.length - (g.1)) (0, (fAppend [] (((venc ((d0.1).toNat)) ++ venc ((d0.2.1).toNat)) ++ venc d0.2.2.length)).1, A12_0, c12_0, m12, (fAppend [] (((venc ((d0.1).toNat)) ++ venc ((d0.2.1).toNat)) ++ venc d0.2.2.length)).2) (⟨by omega, by exact senc_head0 (Decidable.not_not.1 ‹¬ ¬ sectCheck d0 = 0›), by exact senc_head1 (Decidable.not_not.1 ‹¬ ¬ sectCheck d0 = 0›), by exact senc_head2 (Decidable.not_not.1 ‹¬ ¬ sectCheck d0 = 0›), (Ow.ownl f12_0 rfl mnil)⟩) ⟨⟨rfl, rfl, rfl, rfl, rfl, rfl, rfl, rfl, rfl, rfl, rfl, rfl, rfl, rfl, trivial⟩, fun _ h => h.sub [112, 110, 102, 0]⟩ ?_
    rintro ⟨k, b, b_A, b_c, b_m, e⟩ ⟨hk, he, hb, hl, h_b⟩
    replace hk : k ≤ d0.2.2.length := hk
    replace he : e = 0 := he
    replace hb : b ++ cFrames (d0.2.2.drop k) = sectEnc d0 := hb
    replace hl : b.length ≤ 40 + 710 * k := hl
    replace h_b : OwnL .byte b_m mnil (.slice b_A b.length b_c) b := h_b
    show VC _ _ _ _ _ [(8, Value.slice b_A (b.length) (b_c)), (9, Value.int .i64 (e)), (43, Value.int .i64 (((k : Nat) : Int))), (0, Value.agg [Value.int .i64 (d0.1), Value.int .i64 (d0.2.1), Value.slice p0_A2 (d0.2.2.length) (p0_c2)].toArray), (1, Value.pointer (some ⟨g1, 0, none⟩)), (4, Value.int .i64 (sectCheck d0)), (5, Value.slice A10_0 ((((venc ((d0.1).toNat)) ++ venc ((d0.2.1).toNat)) ++ venc d0.2.2.length).length) (c10_0)), (7, Value.int .i64 (((d0.2.2.length : Nat) : Int))), (17, Value.bool (decide (¬ (sectCheck d0) = 0))), (26, Value.agg [Value.int .i64 (d0.1), Value.int .i64 (d0.2.1), Value.int .i64 (((d0.2.2.length : Nat) : Int))].toArray), (27, Value.int .i64 (((3 : Nat) : Int))), (28, Value.bool (decide (((3 : Nat) : Int) < 3))), (41, Value.slice p0_A2 (d0.2.2.length) (p0_c2)), (42, Value.int .i64 (((d0.2.2.length : Nat) : Int)))] [(112, b_m), (110, m10), (102, mone g1 (.cells [Value.int .i64 (d0.1), Value.int .i64 (d0.2.1), Value.slice p0_A2 (d0.2.2.length) (p0_c2)].toArray 24 (0, 0))), (0, wm W)]
    have l_b : b.length ≤ b_c := by obtain ⟨_, _, he, hl, _⟩ := h_b.slice; simp only [Value.slice.injEq] at he; omega
    have k_b : b_c ≤ 9223372036854775807 := by obtain ⟨_, _, he, _, hl⟩ := h_b.slice; simp only [Value.slice.injEq, maxLen] at he hl; omega
    refine VC.rs ?_
    refine VO.y rfl (.lss rfl rfl) ?_
    refine VO.keep [112, 110, 102, 0] [(112, b_m), (110, m10), (102, mone g1 (.cells [Value.int .i64 (d0.1), Value.int .i64 (d0.2.1), Value.slice p0_A2 (d0.2.2.length) (p0_c2)].toArray 24 (0, 0))), (0, wm W)] (by kernel_rfl) ?_
    refine VO.k15 0 1 4 5 7 8 9 17 26 27 28 41 42 43 44 ?_
    refine VC.seq ?_
    refine VC.cond rfl (fun hc15 => ?_) (fun hc15 => ?_)
    · -- FRRRRT
      refine VC.skip ?_
      refine outN ?_
      refine VC.seq ?_
      refine VC.block ?_
      refine VC.rs ?_
      obtain ⟨x16, hx16⟩ : ∃ z_, (d0.2.2)[k]? = some z_ := ⟨_, List.getElem?_eq_getElem (by first | omega | (simp only [List.length_append, List.length_nil, List.length_cons, List.length_take, List.length_drop] at *; omega) | (have h_ := sect_ok (Decidable.not_not.1 ‹¬ ¬ sectCheck d0 = 0›); have h2_ := sect_fork (Decidable.not_not.1 ‹¬ ¬ sectCheck d0 = 0›); omega) | (have h_ := sect_ok (Decidable.not_not.1 ‹¬ ¬ sectCheck d0 = 0›); have h2_ := sect_fork (Decidable.not_not.1 ‹¬ ¬ sectCheck d0 = 0›); simp only [List.length_append, List.length_nil, List.length_cons, List.length_take, List.length_drop] at *; omega))⟩
      obtain ⟨gg16, oo16, ec16, ea16, hce16, hre16⟩ := p0_2.elem hx16
      cases ea16
      obtain ⟨q16_A2, q16_c2, rfl, q16_0, q16_1, q16_2⟩ := open_Commit (x0 := x16.1) (x1 := x16.2.1) (x2 := x16.2.2) hre16
      simp only [inK] at q16_0
      simp only [inK] at q16_1
      have q16_r2 := Rd.room q16_2
      refine VO.y rfl (.ixI k rfl rfl tsl22 rfl (by first | omega | (simp only [List.length_append, List.length_nil, List.length_cons, List.length_take, List.length_drop] at *; omega) | (have h_ := sect_ok (Decidable.not_not.1 ‹¬ ¬ sectCheck d0 = 0›); have h2_ := sect_fork (Decidable.not_not.1 ‹¬ ¬ sectCheck d0 = 0›); omega) | (have h_ := sect_ok (Decidable.not_not.1 ‹¬ ¬ sectCheck d0 = 0›); have h2_ := sect_fork (Decidable.not_not.1 ‹¬ ¬ sectCheck d0 = 0›); simp only [List.length_append, List.length_nil, List.length_cons, List.length_take, List.length_drop] at *; omega))) ?_
      refine VO.y rfl (.ldA 0 rfl tk32 rfl hce16) ?_
      refine VO.alloc 118 rfl tz32 (fun g17 => ?_)
      refine VO.store (k := 3) (c' := [Value.int .i64 (x16.1), Value.int .i64 (x16.2.1), Value.slice q16_A2 (x16.2.2.length) (q16_c2)]) 118 rfl rfl (.inl tk32) rfl rfl rfl rfl rfl ?_
      refine VO.k16 0 1 4 5 7 8 9 11 17 26 27 28 41 42 43 44 ?_
      refine VC.seq ?_
      refine VC.rs ?_
      refine VO.mv ?_
      refine VO.y rfl (.neq rfl rfl) ?_
      refine VO.k17 0 1 4 5 7 8 9 11 17 26 27 28 41 42 43 44 48 ?_
      refine VC.cond rfl (fun hc19 => ?_) (fun hc19 => ?_)
      · -- FRRRRTT
        exact absurd he hc19
      · -- FRRRRTF
        refine VC.skip ?_
        refine outN ?_
        refine VC.rs ?_
        refine VO.y rfl (.ldA 118 rfl tk32 rfl (cellsAt_one rfl rfl)) ?_
        refine VO.callN 120 rfl fnOk56 rfl (fun W hW => cEncode_ok_ W (Rd.mono hre16 (hW.at (i := 0) rfl))) (fun v20 m20 hv20 => ?_)
        obtain ⟨s20_0, rfl, f20_0⟩ := hv20
        have hfa21 := cEncode_len x16
        obtain ⟨A20_0, c20_0, eq20_0, l20_0, k20_0⟩ := f20_0.slice
        subst eq20_0
        simp only [maxLen] at k20_0
        refine VO.mv ?_
        refine VO.y rfl (.ext rfl rfl) ?_
        refine VO.y rfl (.ext rfl rfl) ?_
        refine VO.as ?_
        refine VO.as ?_
        refine VO.keep [120, 118, 112, 110, 102, 0] [(120, m20), (118, mone g17 (.cells [Value.int .i64 (x16.1), Value.int .i64 (x16.2.1), Value.slice q16_A2 (x16.2.2.length) (q16_c2)].toArray 32 (0, 0))), (112, b_m), (110, m10), (102, mone g1 (.cells [Value.int .i64 (d0.1), Value.int .i64 (d0.2.1), Value.slice (some ⟨gg16, oo16, none⟩) (d0.2.2.length) (p0_c2)].toArray 24 (0, 0))), (0, wm W)] (by kernel_rfl) ?_
        refine VO.k18 0 1 4 5 7 8 9 11 12 17 26 27 28 41 42 43 44 48 ?_
        refine VC.reg ?_
        refine VO.mv ?_
        refine VO.mv ?_
        refine VO.callN 122 rfl fnOk55 rfl (fun W hW => fAppend_ok W (OwnL.rd h_b (hW.at (i := 112) rfl) (mle_nil _)) (OwnL.rd (Ow.ownl f20_0 rfl mnil) (hW.at (i := 120) rfl) (mle_nil _)) (by first | omega | (simp only [List.length_append, List.length_nil, List.length_cons, List.length_take, List.length_drop] at *; omega) | (have h_ := sect_ok (Decidable.not_not.1 ‹¬ ¬ sectCheck d0 = 0›); have h2_ := sect_fork (Decidable.not_not.1 ‹¬ ¬ sectCheck d0 = 0›); omega) | (have h_ := sect_ok (Decidable.not_not.1 ‹¬ ¬ sectCheck d0 = 0›); have h2_ := sect_fork (Decidable.not_not.1 ‹¬ ¬ sectCheck d0 = 0›); simp only [List.length_append, List.length_nil, List.length_cons, List.length_take, List.length_drop] at *; omega))) (fun v22 m22 hv22 => ?_)
        obtain ⟨s22_0, rfl, f22_0⟩ := hv22
        have hfa23 := fAppend_len b ((cEncode x16).1)
        have hfa24 := fAppend_range b ((cEncode x16).1)
        obtain ⟨A22_0, c22_0, eq22_0, l22_0, k22_0⟩ := f22_0.slice
        subst eq22_0
        simp only [maxLen] at k22_0
        refine VO.mv ?_
        refine VO.y rfl (.ext rfl rfl) ?_
        refine VO.y rfl (.ext rfl rfl) ?_
        refine VO.as ?_
        refine VO.as ?_
        refine VO.k18 0 1 4 5 7 8 9 11 12 17 26 27 28 41 42 43 44 48 ?_
        refine outBN ?_
        refine outN ?_
        refine VC.reg ?_
        refine VO.y rfl (.add (c := ((k + 1 : Nat) : Int)) rfl rfl (by omega) ⟨by first | omega | (simp only [List.length_append, List.length_nil, List.length_cons, List.length_take, List.length_drop] at *; omega) | (have h_ := sect_ok (Decidable.not_not.1 ‹¬ ¬ sectCheck d0 = 0›); have h2_ := sect_fork (Decidable.not_not.1 ‹¬ ¬ sectCheck d0 = 0›); omega) | (have h_ := sect_ok (Decidable.not_not.1 ‹¬ ¬ sectCheck d0 = 0›); have h2_ := sect_fork (Decidable.not_not.1 ‹¬ ¬ sectCheck d0 = 0›); simp only [List.length_append, List.length_nil, List.length_cons, List.length_take, List.length_drop] at *; omega), by first | omega | (simp only [List.length_append, List.length_nil, List.length_cons, List.length_take, List.length_drop] at *; omega) | (have h_ := sect_ok (Decidable.not_not.1 ‹¬ ¬ sectCheck d0 = 0›); have h2_ := sect_fork (Decidable.not_not.1 ‹¬ ¬ sectCheck d0 = 0›); omega) | (have h_ := sect_ok (Decidable.not_not.1 ‹¬ ¬ sectCheck d0 = 0›); have h2_ := sect_fork (Decidable.not_not.1 ‹¬ ¬ sectCheck d0 = 0›); simp only [List.length_append, List.length_nil, List.length_cons, List.length_take, List.length_drop] at *; omega)⟩) ?_
        refine VO.mv ?_
        refine VO.k18 0 1 4 5 7 8 9 11 12 17 26 27 28 41 42 43 44 48 ?_
        exact outN ⟨⟨k + 1, (fAppend b ((cEncode x16).1)).1, A22_0, c22_0, m22, (fAppend b ((cEncode x16).1)).2⟩, ⟨by omega, by exact senc_step0 (Decidable.not_not.1 ‹¬ ¬ sectCheck d0 = 0›) ‹d0.2.2[k]? = some _›, by exact senc_step1 (Decidable.not_not.1 ‹¬ ¬ sectCheck d0 = 0›) hb ‹d0.2.2[k]? = some _›, by exact senc_step2 (Decidable.not_not.1 ‹¬ ¬ sectCheck d0 = 0›) hl ‹d0.2.2[k]? = some _›, (Ow.ownl f22_0 rfl mnil)⟩, by first | omega | (simp only [List.length_append, List.length_nil, List.length_cons, List.length_take, List.length_drop] at *; omega) | (have h_ := sect_ok (Decidable.not_not.1 ‹¬ ¬ sectCheck d0 = 0›); have h2_ := sect_fork (Decidable.not_not.1 ‹¬ ¬ sectCheck d0 = 0›); omega) | (have h_ := sect_ok (Decidable.not_not.1 ‹¬ ¬ sectCheck d0 = 0›); have h2_ := sect_fork (Decidable.not_not.1 ‹¬ ¬ sectCheck d0 = 0›); simp only [List.length_append, List.length_nil, List.length_cons, List.length_take, List.length_drop] at *; omega), ⟨⟨rfl, rfl, rfl, rfl, rfl, rfl, rfl, rfl, rfl, rfl, rfl, rfl, rfl, rfl, trivial⟩, fun _ h => Inv.sub (Inv.num h 122 112 rfl) [112, 110, 102, 0]⟩⟩
    · -- FRRRRF
      refine VC.exit ?_
      refine outE ?_
      refine outE ?_
      refine outBB ?_
      refine outN ?_
      refine VC.rs ?_
      refine VO.mv ?_
      refine VO.mv ?_
      refine VO.as ?_
      refine VO.as ?_
      refine VO.k17 0 1 2 3 4 5 7 8 9 17 26 27 28 41 42 43 44 ?_
      refine VC.ret ?_
      refine ⟨_, _, res_run (rs := [.tmp 2, .tmp 3]) rfl (.tmp rfl (.tmp rfl .nil)), fun W_ hI => out_of (l := [b_m]) hI [112] rfl rfl (mle_refl _) (fun hS_ => ?_)⟩
      dsimp only [packV]
      have he0 : ((sectEncode d0).1 : Ty.Den (.sl .byte)) = b := by first | rfl | (first | (rw [sectEncode_bad (by assumption)] <;> rfl) | (rw [sectEncode_good (by assumption)] <;> first | rfl | (dsimp only; rw [← hb, List.drop_of_length_le (by omega)]; simp [cFrames]; done) | (dsimp only; rw [he]; done)))
      refine ⟨Value.slice b_A (b.length) (b_c), ?_, ?_⟩
      rotate_left
      · rw [he0]; exact (Ow.up (OwnL.ow h_b rfl) (hS_.1 _ (.head _)))
      all_goals (first | rfl | (first | (rw [sectEncode_bad (by assumption)] <;> rfl) | (rw [sectEncode_good (by assumption)] <;> first | rfl | (dsimp only; rw [← hb, List.drop_of_length_le (by omega)]; simp [cFrames]; done) | (dsimp only; rw [he]; done))))
set_option maxHeartbeats 2000000 in
theorem head_ok (W : World) {v0 : Value} {d0 : List UInt8} (h0 : Rd (.sl .byte) (wm W) [v0] d0) : CallR Try.prog 92 [v0] W (mnil) (fun v m' => v = .tuple #[.agg [.int .i64 ((headS d0).1.1), .int .i64 ((headS d0).1.2.1), .slice none 0 0].toArray, .int .i64 ((headS d0).2.1), .bool ((headS d0).2.2)]) := by
  obtain ⟨A0, c0, rfl, l0, k0⟩ := h0.slice
  simp only [maxLen] at k0
  refine CallR.ofA (n := 39) Try.func92 rfl rfl rfl ?_
  refine VC.rs ?_
  refine VO.alloc 102 rfl tz24 (fun g1 => ?_)
  refine VO.as ?_
  refine VO.as ?_
  refine VO.k4 0 2 3 4 ?_
  refine VC.rs ?_
  refine VO.alloc 104 rfl tz80 (fun g3 => ?_)
  refine VO.k5 0 2 3 4 5 ?_
  refine VC.seq ?_
  refine VC.rs ?_
  refine VO.mv ?_
  refine VO.keep [104, 102, 0] [(104, mone g3 (.cells [Value.int .i64 (0), Value.int .i64 (0), Value.int .i64 (0)].toArray 80 (0, 0))), (102, mone g1 (.cells [Value.int .i64 (0), Value.int .i64 (0), Value.slice none (0) (0)].toArray 24 (0, 0))), (0, wm W)] (by kernel_rfl) ?_
  refine VO.k6 0 2 3 4 5 10 ?_
  refine VC.block ?_
  refine VC.rounds 5 (VRounds.step ?_)
  refine VC.rs ?_
  refine VO.y rfl (.lss rfl rfl) ?_
  refine VO.k7 0 2 3 4 5 10 11 ?_
  refine VC.seq ?_
  refine VC.condKT rfl (decide_eq_true (by decide)) ?_
  refine VC.skip ?_
  refine outN ?_
  refine VC.seq ?_
  refine VC.block ?_
  refine VC.rs ?_
  refine VO.mv ?_
  refine VO.as ?_
  refine VO.k8 0 2 3 4 5 6 10 11 ?_
  refine VC.rs ?_
  refine VO.mv ?_
  refine VO.callN 105 rfl fnOk111 rfl (fun W hW => vSmall_ok W (Rd.mono h0 (hW.at (i := 0) rfl)) 1048576 bdk) (fun v5 m5 hv5 => ?_)
  subst hv5
  have hfa6 := s_bounds d0 1048576 (by omega)
  refine VO.mv ?_
  refine VO.y rfl (.ext rfl rfl) ?_
  refine VO.y rfl (.ext rfl rfl) ?_
  refine VO.y rfl (.ext rfl rfl) ?_
  refine VO.as ?_
  refine VO.as ?_
  refine VO.as ?_
  refine VO.keep [104, 102, 0] [(104, mone g3 (.cells [Value.int .i64 (0), Value.int .i64 (0), Value.int .i64 (0)].toArray 80 (0, 0))), (102, mone g1 (.cells [Value.int .i64 (0), Value.int .i64 (0), Value.slice none (0) (0)].toArray 24 (0, 0))), (0, wm W)] (by kernel_rfl) ?_
  refine VO.k11 0 2 3 4 5 6 7 8 9 10 11 ?_
  refine VC.seq ?_
  refine VC.rs ?_
  refine VO.mv ?_
  refine VO.y rfl (.neq rfl rfl) ?_
  refine VO.k12 0 2 3 4 5 6 7 8 9 10 11 20 ?_
  refine VC.cond rfl (fun hc7 => ?_) (fun hc7 => ?_)
  · -- RT
    refine VC.rs ?_
    refine VO.y rfl (.bst (cs := [Value.int .i64 (0), Value.int .i64 (0), Value.slice none (0) (0)]) rfl tst24 tz24 rfl) ?_
    refine VO.store (k := 3) (c' := [Value.int .i64 (0), Value.int .i64 (0), Value.slice none (0) (0)]) 102 rfl rfl (.inl tk24) rfl rfl rfl rfl rfl ?_
    refine VO.as ?_
    refine VO.as ?_
    refine VO.k12 0 2 3 4 5 6 7 8 9 10 11 20 ?_
    refine VC.ret ?_
    refine outR ?_
    refine outBR ?_
    refine outR ?_
    refine outR ?_
    refine outBR ?_
    refine outR ?_
    refine ⟨_, _, res_run (rs := [.cell 2 24, .tmp 3, .tmp 4]) rfl (.agg 102 rfl tk24 rfl ⟨_, _, _, mone_self _ _, Nat.le_of_ble_eq_true rfl, rfl⟩ (.tmp rfl (.tmp rfl .nil))), fun W_ hI => out_of (l := []) hI [] rfl rfl (mle_refl _) (fun hS_ => ?_)⟩
    dsimp only [packV]
    all_goals (first | rfl | (first | (rw [headS_no1 (by assumption)] <;> rfl) | (rw [headS_x2 (by assumption)] <;> rfl) | (rw [headS_x3 (by assumption)] <;> rfl) | (rw [headS_x4 (by assumption) (by assumption) (by assumption)] <;> first | rfl | (simp only [List.length_drop]; done) | (simp only [List.length_drop]; congr 4 <;> (apply decide_eq_decide.2; omega)))))
  · -- RF
    refine VC.skip ?_
    refine outN ?_
    refine VC.regD _ 7 [(0, true), (1, true), (2, true), (3, true), (4, true), (5, true), (6, false)] follows (by kernel_rfl) (fun _ h => h.sub [102, 0]) ?_
    refine VD.y rfl rfl (.inl rfl) (.mv rfl) ?_
    refine VD.y rfl rfl (.inl rfl) (.mv rfl) ?_
    refine VD.y rfl rfl (.inl rfl) (.mv rfl) ?_
    refine VD.y rfl rfl (.inl rfl) (.mv rfl) ?_
    obtain ⟨A8, hA8, hs8⟩ := h0.drop 1 (sN d0 1048576) rfl bd
    refine VD.y rfl rfl (.inl rfl) (.slLI (sN d0 1048576) A8 rfl rfl tsl25 rfl hA8 bd) ?_
    refine VD.y rfl rfl (.inl rfl) (.ixa (i := 0) (o := 0) rfl rfl tar80 rfl rfl rfl) ?_
    refine VD.store (k := 1) (c' := [Value.int .i64 (((sX d0 1048576 : Nat) : Int)), Value.int .i64 (0), Value.int .i64 (0)]) 104 rfl rfl rfl (.inr ⟨tk3, rfl⟩) rfl rfl rfl rfl rfl (fun _ h => h.sub [102, 0]) ?_
    refine VD.nil rfl ?_ rfl
    refine VO.as ?_
    refine VO.k12 0 2 3 4 5 6 7 8 9 10 11 20 ?_
    refine outBN ?_
    refine outN ?_
    refine VC.reg ?_
    refine VO.y rfl (.add (c := ((1 : Nat) : Int)) rfl rfl (by omega) ⟨bd, bd⟩) ?_
    refine VO.mv ?_
    refine VO.keep [104, 102, 0] [(104, mone g3 (.cells [Value.int .i64 (((sX d0 1048576 : Nat) : Int)), Value.int .i64 (0), Value.int .i64 (0)].toArray 80 (0, 0))), (102, mone g1 (.cells [Value.int .i64 (0), Value.int .i64 (0), Value.slice none (0) (0)].toArray 24 (0, 0))), (0, wm W)] (by kernel_rfl) ?_
    refine VO.k12 0 2 3 4 5 6 7 8 9 10 11 20 ?_
    refine outN (VRounds.step ?_)
    refine VC.rs ?_
    refine VO.y rfl (.lss rfl rfl) ?_
    refine VO.k12 0 2 3 4 5 6 7 8 9 10 11 20 ?_
    refine VC.seq ?_
    refine VC.condKT rfl (decide_eq_true (by decide)) ?_
    refine VC.skip ?_
    refine outN ?_
    refine VC.seq ?_
    refine VC.block ?_
    refine VC.rs ?_
    refine VO.mv ?_
    refine VO.as ?_
    refine VO.k12 0 2 3 4 5 6 7 8 9 10 11 20 ?_
    refine VC.rs ?_
    refine VO.mv ?_
    refine VO.callN 109 rfl fnOk111 rfl (fun W hW => vSmall_ok W (Rd.mono hs8 (hW.at (i := 0) rfl)) 1048576 bdk) (fun v9 m9 hv9 => ?_)
    subst hv9
    have hfa10 := s_bounds (d0.drop (sN d0 1048576)) 1048576 (by omega)
    refine VO.mv ?_
    refine VO.y rfl (.ext rfl rfl) ?_
    refine VO.y rfl (.ext rfl rfl) ?_
    refine VO.y rfl (.ext rfl rfl) ?_
    refine VO.as ?_
    refine VO.as ?_
    refine VO.as ?_
    refine VO.keep [104, 102, 0] [(104, mone g3 (.cells [Value.int .i64 (((sX d0 1048576 : Nat) : Int)), Value.int .i64 (0), Value.int .i64 (0)].toArray 80 (0, 0))), (102, mone g1 (.cells [Value.int .i64 (0), Value.int .i64 (0), Value.slice none (0) (0)].toArray 24 (0, 0))), (0, wm W)] (by kernel_rfl) ?_
    refine VO.k12 0 2 3 4 5 6 7 8 9 10 11 20 ?_
    refine VC.seq ?_
    refine VC.rs ?_
    refine VO.mv ?_
    refine VO.y rfl (.neq rfl rfl) ?_
    refine VO.k12 0 2 3 4 5 6 7 8 9 10 11 20 ?_
    refine VC.cond rfl (fun hc11 => ?_) (fun hc11 => ?_)
    · -- RFRT
      refine VC.rs ?_
      refine VO.y rfl (.bst (cs := [Value.int .i64 (0), Value.int .i64 (0), Value.slice none (0) (0)]) rfl tst24 tz24 rfl) ?_
      refine VO.store (k := 3) (c' := [Value.int .i64 (0), Value.int .i64 (0), Value.slice none (0) (0)]) 102 rfl rfl (.inl tk24) rfl rfl rfl rfl rfl ?_
      refine VO.as ?_
      refine VO.as ?_
      refine VO.k12 0 2 3 4 5 6 7 8 9 10 11 20 ?_
      refine VC.ret ?_
      refine outR ?_
      refine outBR ?_
      refine outR ?_
      refine outR ?_
      refine outBR ?_
      refine outR ?_
      refine ⟨_, _, res_run (rs := [.cell 2 24, .tmp 3, .tmp 4]) rfl (.agg 102 rfl tk24 rfl ⟨_, _, _, mone_self _ _, Nat.le_of_ble_eq_true rfl, rfl⟩ (.tmp rfl (.tmp rfl .nil))), fun W_ hI => out_of (l := []) hI [] rfl rfl (mle_refl _) (fun hS_ => ?_)⟩
      dsimp only [packV]
      all_goals (first | rfl | (first | (rw [headS_no1 (by assumption)] <;> rfl) | (rw [headS_x2 (by assumption)] <;> rfl) | (rw [headS_x3 (by assumption)] <;> rfl) | (rw [headS_x4 (by assumption) (by assumption) (by assumption)] <;> first | rfl | (simp only [List.length_drop]; done) | (simp only [List.length_drop]; congr 4 <;> (apply decide_eq_decide.2; omega)))))
    · -- RFRF
      refine VC.skip ?_
      refine outN ?_
      refine VC.regD _ 7 [(0, true), (1, true), (2, true), (3, true), (4, true), (5, true), (6, false)] follows (by kernel_rfl) (fun _ h => h.sub [102, 0]) ?_
      refine VD.y rfl rfl (.inl rfl) (.mv rfl) ?_
      refine VD.y rfl rfl (.inl rfl) (.mv rfl) ?_
      refine VD.y rfl rfl (.inl rfl) (.mv rfl) ?_
      refine VD.y rfl rfl (.inl rfl) (.mv rfl) ?_
      obtain ⟨A12, hA12, hs12⟩ := hs8.drop 1 (sN (d0.drop (sN d0 1048576)) 1048576) rfl bd
      replace hs12 := Rd.relen (k := (d0.length - (sN d0 1048576)) - (sN (d0.drop (sN d0 1048576)) 1048576)) hs12 (by simp only [List.length_drop, List.length_take]; try omega)
      refine VD.y rfl rfl (.inl rfl) (.slLI (sN (d0.drop (sN d0 1048576)) 1048576) A12 rfl rfl tsl25 rfl hA12 bd) ?_
      refine VD.y rfl rfl (.inl rfl) (.ixa (i := 1) (o := 1) rfl rfl tar80 rfl rfl rfl) ?_
      refine VD.store (k := 1) (c' := [Value.int .i64 (((sX d0 1048576 : Nat) : Int)), Value.int .i64 (((sX (d0.drop (sN d0 1048576)) 1048576 : Nat) : Int)), Value.int .i64 (0)]) 104 rfl rfl rfl (.inr ⟨tk3, rfl⟩) rfl rfl rfl rfl rfl (fun _ h => h.sub [102, 0]) ?_
      refine VD.nil rfl ?_ rfl
      refine VO.as ?_
      refine VO.k12 0 2 3 4 5 6 7 8 9 10 11 20 ?_
      refine outBN ?_
      refine outN ?_
      refine VC.reg ?_
      refine VO.y rfl (.add (c := ((2 : Nat) : Int)) rfl rfl (by omega) ⟨bd, bd⟩) ?_
      refine VO.mv ?_
      refine VO.keep [104, 102, 0] [(104, mone g3 (.cells [Value.int .i64 (((sX d0 1048576 : Nat) : Int)), Value.int .i64 (((sX (d0.drop (sN d0 1048576)) 1048576 : Nat) : Int)), Value.int .i64 (0)].toArray 80 (0, 0))), (102, mone g1 (.cells [Value.int .i64 (0), Value.int .i64 (0), Value.slice none (0) (0)].toArray 24 (0, 0))), (0, wm W)] (by kernel_rfl) ?_
      refine VO.k12 0 2 3 4 5 6 7 8 9 10 11 20 ?_
      refine outN (VRounds.step ?_)
      refine VC.rs ?_
      refine VO.y rfl (.lss rfl rfl) ?_
      refine VO.k12 0 2 3 4 5 6 7 8 9 10 11 20 ?_
      refine VC.seq ?_
      refine VC.condKT rfl (decide_eq_true (by decide)) ?_
      refine VC.skip ?_
      refine outN ?_
      refine VC.seq ?_
      refine VC.block ?_
      refine VC.rs ?_
      refine VO.mv ?_
      refine VO.as ?_
      refine VO.k12 0 2 3 4 5 6 7 8 9 10 11 20 ?_
      refine VC.rs ?_
      refine VO.mv ?_
      refine VO.callN 113 rfl fnOk111 rfl (fun W hW => vSmall_ok W (Rd.mono hs12 (hW.at (i := 0) rfl)) 1048576 bdk) (fun v13 m13 hv13 => ?_)
      subst hv13
      have hfa14 := s_bounds ((d0.drop (sN d0 1048576)).drop (sN (d0.drop (sN d0 1048576)) 1048576)) 1048576 (by omega)
      refine VO.mv ?_
      refine VO.y rfl (.ext rfl rfl) ?_
      refine VO.y rfl (.ext rfl rfl) ?_
      refine VO.y rfl (.ext rfl rfl) ?_
      refine VO.as ?_
      refine VO.as ?_
      refine VO.as ?_
      refine VO.keep [104, 102, 0] [(104, mone g3 (.cells [Value.int .i64 (((sX d0 1048576 : Nat) : Int)), Value.int .i64 (((sX (d0.drop (sN d0 1048576)) 1048576 : Nat) : Int)), Value.int .i64 (0)].toArray 80 (0, 0))), (102, mone g1 (.cells [Value.int .i64 (0), Value.int .i64 (0), Value.slice none (0) (0)].toArray 24 (0, 0))), (0, wm W)] (by kernel_rfl) ?_
      refine VO.k12 0 2 3 4 5 6 7 8 9 10 11 20 ?_
      refine VC.seq ?_
      refine VC.rs ?_
      refine VO.mv ?_
      refine VO.y rfl (.neq rfl rfl) ?_
      refine VO.k12 0 2 3 4 5 6 7 8 9 10 11 20 ?_
      refine VC.cond rfl (fun hc15 => ?_) (fun hc15 => ?_)
      · -- RFRFRT
        refine VC.rs ?_
        refine VO.y rfl (.bst (cs := [Value.int .i64 (0), Value.int .i64 (0), Value.slice none (0) (0)]) rfl tst24 tz24 rfl) ?_
        refine VO.store (k := 3) (c' := [Value.int .i64 (0), Value.int .i64 (0), Value.slice none (0) (0)]) 102 rfl rfl (.inl tk24) rfl rfl rfl rfl rfl ?_
        refine VO.as ?_
        refine VO.as ?_
        refine VO.k12 0 2 3 4 5 6 7 8 9 10 11 20 ?_
        refine VC.ret ?_
        refine outR ?_
        refine outBR ?_
        refine outR ?_
        refine outR ?_
        refine outBR ?_
        refine outR ?_
        refine ⟨_, _, res_run (rs := [.cell 2 24, .tmp 3, .tmp 4]) rfl (.agg 102 rfl tk24 rfl ⟨_, _, _, mone_self _ _, Nat.le_of_ble_eq_true rfl, rfl⟩ (.tmp rfl (.tmp rfl .nil))), fun W_ hI => out_of (l := []) hI [] rfl rfl (mle_refl _) (fun hS_ => ?_)⟩
        dsimp only [packV]
        all_goals (first | rfl | (first | (rw [headS_no1 (by assumption)] <;> rfl) | (rw [headS_x2 (by assumption)] <;> rfl) | (rw [headS_x3 (by assumption)] <;> rfl) | (rw [headS_x4 (by assumption) (by assumption) (by assumption)] <;> first | rfl | (simp only [List.length_drop]; done) | (simp only [List.length_drop]; congr 4 <;> (apply decide_eq_decide.2; omega)))))
      · -- RFRFRF
        refine VC.skip ?_
        refine outN ?_
        refine VC.regD _ 7 [(0, true), (1, true), (2, true), (3, true), (4, true), (5, true), (6, false)] follows (by kernel_rfl) (fun _ h => h.sub [102, 0]) ?_
        refine VD.y rfl rfl (.inl rfl) (.mv rfl) ?_
        refine VD.y rfl rfl (.inl rfl) (.mv rfl) ?_
        refine VD.y rfl rfl (.inl rfl) (.mv rfl) ?_
        refine VD.y rfl rfl (.inl rfl) (.mv rfl) ?_
        obtain ⟨A16, hA16, hs16⟩ := hs12.drop 1 (sN ((d0.drop (sN d0 1048576)).drop (sN (d0.drop (sN d0 1048576)) 1048576)) 1048576) rfl bd
        replace hs16 := Rd.relen (k := ((d0.length - (sN d0 1048576)) - (sN (d0.drop (sN d0 1048576)) 1048576)) - (sN ((d0.drop (sN d0 1048576)).drop (sN (d0.drop (sN d0 1048576)) 1048576)) 1048576)) hs16 (by simp only [List.length_drop, List.length_take]; try omega)
        refine VD.y rfl rfl (.inl rfl) (.slLI (sN ((d0.drop (sN d0 1048576)).drop (sN (d0.drop (sN d0 1048576)) 1048576)) 1048576) A16 rfl rfl tsl25 rfl hA16 bd) ?_
        refine VD.y rfl rfl (.inl rfl) (.ixa (i := 2) (o := 2) rfl rfl tar80 rfl rfl rfl) ?_
        refine VD.store (k := 1) (c' := [Value.int .i64 (((sX d0 1048576 : Nat) : Int)), Value.int .i64 (((sX (d0.drop (sN d0 1048576)) 1048576 : Nat) : Int)), Value.int .i64 (((sX ((d0.drop (sN d0 1048576)).drop (sN (d0.drop (sN d0 1048576)) 1048576)) 1048576 : Nat) : Int))]) 104 rfl rfl rfl (.inr ⟨tk3, rfl⟩) rfl rfl rfl rfl rfl (fun _ h => h.sub [102, 0]) ?_
        refine VD.nil rfl ?_ rfl
        refine VO.as ?_
        refine VO.k12 0 2 3 4 5 6 7 8 9 10 11 20 ?_
        refine outBN ?_
        refine outN ?_
        refine VC.reg ?_
        refine VO.y rfl (.add (c := ((3 : Nat) : Int)) rfl rfl (by omega) ⟨bd, bd⟩) ?_
        refine VO.mv ?_
        refine VO.keep [104, 102, 0] [(104, mone g3 (.cells [Value.int .i64 (((sX d0 1048576 : Nat) : Int)), Value.int .i64 (((sX (d0.drop (sN d0 1048576)) 1048576 : Nat) : Int)), Value.int .i64 (((sX ((d0.drop (sN d0 1048576)).drop (sN (d0.drop (sN d0 1048576)) 1048576)) 1048576 : Nat) : Int))].toArray 80 (0, 0))), (102, mone g1 (.cells [Value.int .i64 (0), Value.int .i64 (0), Value.slice none (0) (0)].toArray 24 (0, 0))), (0, wm W)] (by kernel_rfl) ?_
        refine VO.k12 0 2 3 4 5 6 7 8 9 10 11 20 ?_
        refine outN (VRounds.step ?_)
        refine VC.rs ?_
        refine VO.y rfl (.lss rfl rfl) ?_
        refine VO.k12 0 2 3 4 5 6 7 8 9 10 11 20 ?_
        refine VC.seq ?_
        refine VC.condKF rfl (decide_eq_false (by decide)) ?_
        refine VC.exit ?_
        refine outE ?_
        refine outE ?_
        refine outBB ?_
        refine outN ?_
        refine VC.seq ?_
        refine VC.regD _ 12 [(0, true), (1, true), (2, true), (3, true), (4, true), (5, true), (6, true), (7, true), (8, true), (9, true), (10, false), (11, true)] follows (by kernel_rfl) (fun _ h => h.sub [104, 0]) ?_
        refine VD.y rfl rfl (.inl rfl) (.ixa (i := 0) (o := 0) rfl rfl tar80 rfl rfl rfl) ?_
        refine VD.y rfl rfl (.inl rfl) (.ld1 104 rfl tk3 rfl (cellsAt_one rfl rfl)) ?_
        refine VD.y rfl rfl (.inl rfl) (.ixa (i := 1) (o := 1) rfl rfl tar80 rfl rfl rfl) ?_
        refine VD.y rfl rfl (.inl rfl) (.ld1 104 rfl tk3 rfl (cellsAt_one rfl rfl)) ?_
        refine VD.y rfl rfl (.inl rfl) (.bst (cs := [Value.int .i64 (((sX d0 1048576 : Nat) : Int)), Value.int .i64 (((sX (d0.drop (sN d0 1048576)) 1048576 : Nat) : Int)), Value.slice none (0) (0)]) rfl tst24 tz24 rfl) ?_
        refine VD.y rfl rfl (.inl rfl) (.ixa (i := 2) (o := 2) rfl rfl tar80 rfl rfl rfl) ?_
        refine VD.y rfl rfl (.inl rfl) (.ld1 104 rfl tk3 rfl (cellsAt_one rfl rfl)) ?_
        refine VD.y rfl rfl (.inl rfl) (.mv rfl) ?_
        refine VD.y rfl rfl (.inl rfl) (.lenS rfl tsl25) ?_
        refine VD.y rfl rfl (.inl rfl) (.eql rfl rfl) ?_
        refine VD.store (k := 3) (c' := [Value.int .i64 (((sX d0 1048576 : Nat) : Int)), Value.int .i64 (((sX (d0.drop (sN d0 1048576)) 1048576 : Nat) : Int)), Value.slice none (0) (0)]) 102 rfl rfl rfl (.inl tk24) rfl rfl rfl rfl rfl (fun _ h => h.sub [104, 0]) ?_
        refine VD.y rfl rfl (.inl rfl) (.as rfl) ?_
        refine VD.nil rfl ?_ rfl
        refine VO.as ?_
        refine VO.k12 0 2 3 4 5 6 7 8 9 10 11 20 ?_
        refine outN ?_
        refine VC.ret ?_
        refine ⟨_, _, res_run (rs := [.cell 2 24, .tmp 3, .tmp 4]) rfl (.agg 102 rfl tk24 rfl ⟨_, _, _, mone_self _ _, Nat.le_of_ble_eq_true rfl, rfl⟩ (.tmp rfl (.tmp rfl .nil))), fun W_ hI => out_of (l := []) hI [] rfl rfl (mle_refl _) (fun hS_ => ?_)⟩
        dsimp only [packV]
        all_goals (first | rfl | (first | (rw [headS_no1 (by assumption)] <;> rfl) | (rw [headS_x2 (by assumption)] <;> rfl) | (rw [headS_x3 (by assumption)] <;> rfl) | (rw [headS_x4 (by assumption) (by assumption) (by assumption)] <;> first | rfl | (simp only [List.length_drop]; done) | (simp only [List.length_drop]; congr 4 <;> (apply decide_eq_decide.2; omega)))))
theorem section_ok (W : World) {v0 : Value} {d0 : List UInt8} (h0 : Rd (.sl .byte) (wm W) [v0] d0) : CallR Try.prog 60 [v0] W (mnil) (fun v m' => ∃ (s0 : List Value), v = .tuple #[.agg s0.toArray, .int .i64 ((secRead d0).2.1), .bool ((secRead d0).2.2)] ∧ Ow TSection m' s0 ((secRead d0).1)) := by
  obtain ⟨A0, c0, rfl, l0, k0⟩ := h0.slice
  simp only [maxLen] at k0
  refine CallR.ofA (n := 70) Try.func60 rfl rfl rfl ?_
  refine VC.rs ?_
  refine VO.alloc 102 rfl tz24 (fun g1 => ?_)
  refine VO.as ?_
  refine VO.as ?_
  refine VO.k4 0 2 3 4 ?_
  refine VC.rs ?_
  refine VO.mv ?_
  refine VO.callN 103 rfl fnOk91 rfl (fun W hW => fRead_ok W (Rd.mono h0 (hW.at (i := 0) rfl))) (fun v3 m3 hv3 => ?_)
  obtain ⟨s3_0, rfl, f3_0⟩ := hv3
  have hfa4 := fRead_bounds d0
  obtain ⟨A3_0, c3_0, eq3_0, l3_0, k3_0⟩ := f3_0.slice
  subst eq3_0
  simp only [maxLen] at k3_0
  refine VO.mv ?_
  refine VO.y rfl (.ext rfl rfl) ?_
  refine VO.y rfl (.ext rfl rfl) ?_
  refine VO.y rfl (.ext rfl rfl) ?_
  refine VO.as ?_
  refine VO.as ?_
  refine VO.as ?_
  refine VO.k7 0 2 3 4 5 6 7 ?_
  refine VC.seq ?_
  refine VC.rs ?_
  refine VO.mv ?_
  refine VO.y rfl (.neq rfl rfl) ?_
  refine VO.keep [103, 102, 0] [(103, m3), (102, mone g1 (.cells [Value.int .i64 (0), Value.int .i64 (0), Value.slice none (0) (0)].toArray 24 (0, 0))), (0, wm W)] (by kernel_rfl) ?_
  refine VO.k8 0 2 3 4 5 6 7 22 ?_
  refine VC.cond rfl (fun hc5 => ?_) (fun hc5 => ?_)
  · -- T
    refine VC.rs ?_
    refine VO.y rfl (.bst (cs := [Value.int .i64 (0), Value.int .i64 (0), Value.slice none (0) (0)]) rfl tst24 tz24 rfl) ?_
    refine VO.store (k := 3) (c' := [Value.int .i64 (0), Value.int .i64 (0), Value.slice none (0) (0)]) 102 rfl rfl (.inl tk24) rfl rfl rfl rfl rfl ?_
    refine VO.as ?_
    refine VO.as ?_
    refine VO.k8 0 2 3 4 5 6 7 22 ?_
    refine VC.ret ?_
    refine outR ?_
    refine ⟨_, _, res_run (rs := [.cell 2 24, .tmp 3, .tmp 4]) rfl (.agg 102 rfl tk24 rfl ⟨_, _, _, mone_self _ _, Nat.le_of_ble_eq_true rfl, rfl⟩ (.tmp rfl (.tmp rfl .nil))), fun W_ hI => out_of (l := []) hI [] rfl rfl (mle_refl _) (fun hS_ => ?_)⟩
    dsimp only [packV]
    have he0 : ((secRead d0).1 : Ty.Den TSection) = (0, 0, []) := by first | rfl | (first | (rw [sec_no1 (by assumption)] <;> rfl) | (rw [sec_no2 (by first | assumption | simpa using ‹_›)] <;> rfl) | (rw [sec_no3 (by assumption) (by simp [*]) (com_no1 hp (by omega) (by assumption))] <;> rfl) | (rw [sec_no3 (by assumption) (by simp [*]) (com_no2 hp (by omega) (by assumption) (by assumption))] <;> rfl) | (rw [sec_yes (by assumption) (by simp [*]) (com_end hp (by omega))] <;> first | rfl | (done)))
    refine ⟨[Value.int .i64 (0), Value.int .i64 (0), Value.slice none (0) (0)], ?_, ?_⟩
    rotate_left
    · rw [he0]; exact (mkO_Section 0 0 [] (Seps.nilAt 0 hS_) (by simp only [inK]; (first | omega | (simp only [List.length_append, List.length_nil, List.length_cons, List.length_take, List.length_drop] at *; omega) | (have h_ := headS_range (fRead d0).1; omega))) (by simp only [inK]; (first | omega | (simp only [List.length_append, List.length_nil, List.length_cons, List.length_take, List.length_drop] at *; omega) | (have h_ := headS_range (fRead d0).1; omega))) (Ow.nil _ _))
    all_goals (first | rfl | (first | (rw [sec_no1 (by assumption)] <;> rfl) | (rw [sec_no2 (by first | assumption | simpa using ‹_›)] <;> rfl) | (rw [sec_no3 (by assumption) (by simp [*]) (com_no1 hp (by omega) (by assumption))] <;> rfl) | (rw [sec_no3 (by assumption) (by simp [*]) (com_no2 hp (by omega) (by assumption) (by assumption))] <;> rfl) | (rw [sec_yes (by assumption) (by simp [*]) (com_end hp (by omega))] <;> first | rfl | (done))))
  · -- F
    refine VC.skip ?_
    refine outN ?_
    refine VC.rs ?_
    refine VO.mv ?_
    refine VO.callN 106 rfl fnOk92 rfl (fun W hW => head_ok W (OwnL.rd (Ow.ownl f3_0 rfl mnil) (hW.at (i := 103) rfl) (mle_nil _))) (fun v6 m6 hv6 => ?_)
    subst hv6
    have hfa7 := headS_range ((fRead d0).1)
    refine VO.mv ?_
    refine VO.y rfl (.ext rfl rfl) ?_
    refine VO.y rfl (.ext rfl rfl) ?_
    refine VO.y rfl (.ext rfl rfl) ?_
    refine VO.alloc 109 rfl tz24 (fun g8 => ?_)
    refine VO.store (k := 3) (c' := [Value.int .i64 ((headS ((fRead d0).1)).1.1), Value.int .i64 ((headS ((fRead d0).1)).1.2.1), Value.slice none (0) (0)]) 109 rfl rfl (.inl tk24) rfl rfl rfl rfl rfl ?_
    refine VO.as ?_
    refine VO.as ?_
    refine VO.k11 0 2 3 4 5 6 7 8 9 10 22 ?_
    refine VC.seq ?_
    refine VC.rs ?_
    refine VO.mv ?_
    refine VO.y rfl (.not rfl) ?_
    refine VO.k12 0 2 3 4 5 6 7 8 9 10 22 31 ?_
    refine VC.condBN rfl (fun hc10 => ?_) (fun hc10 => ?_)
    · -- FT
      refine VC.rs ?_
      refine VO.y rfl (.bst (cs := [Value.int .i64 (0), Value.int .i64 (0), Value.slice none (0) (0)]) rfl tst24 tz24 rfl) ?_
      refine VO.store (k := 3) (c' := [Value.int .i64 (0), Value.int .i64 (0), Value.slice none (0) (0)]) 102 rfl rfl (.inl tk24) rfl rfl rfl rfl rfl ?_
      refine VO.as ?_
      refine VO.as ?_
      refine VO.keep [109, 103, 102, 0] [(109, mone g8 (.cells [Value.int .i64 ((headS ((fRead d0).1)).1.1), Value.int .i64 ((headS ((fRead d0).1)).1.2.1), Value.slice none (0) (0)].toArray 24 (0, 0))), (103, m3), (102, mone g1 (.cells [Value.int .i64 (0), Value.int .i64 (0), Value.slice none (0) (0)].toArray 24 (0, 0))), (0, wm W)] (by kernel_rfl) ?_
      refine VO.k12 0 2 3 4 5 6 7 8 9 10 22 31 ?_
      refine VC.ret ?_
      refine outR ?_
      refine ⟨_, _, res_run (rs := [.cell 2 24, .tmp 3, .tmp 4]) rfl (.agg 102 rfl tk24 rfl ⟨_, _, _, mone_self _ _, Nat.le_of_ble_eq_true rfl, rfl⟩ (.tmp rfl (.tmp rfl .nil))), fun W_ hI => out_of (l := []) hI [] rfl rfl (mle_refl _) (fun hS_ => ?_)⟩
      dsimp only [packV]
      have he0 : ((secRead d0).1 : Ty.Den TSection) = (0, 0, []) := by first | rfl | (first | (rw [sec_no1 (by assumption)] <;> rfl) | (rw [sec_no2 (by first | assumption | simpa using ‹_›)] <;> rfl) | (rw [sec_no3 (by assumption) (by simp [*]) (com_no1 hp (by omega) (by assumption))] <;> rfl) | (rw [sec_no3 (by assumption) (by simp [*]) (com_no2 hp (by omega) (by assumption) (by assumption))] <;> rfl) | (rw [sec_yes (by assumption) (by simp [*]) (com_end hp (by omega))] <;> first | rfl | (done)))
      refine ⟨[Value.int .i64 (0), Value.int .i64 (0), Value.slice none (0) (0)], ?_, ?_⟩
      rotate_left
      · rw [he0]; exact (mkO_Section 0 0 [] (Seps.nilAt 0 hS_) (by simp only [inK]; (first | omega | (simp only [List.length_append, List.length_nil, List.length_cons, List.length_take, List.length_drop] at *; omega) | (have h_ := headS_range (fRead d0).1; omega))) (by simp only [inK]; (first | omega | (simp only [List.length_append, List.length_nil, List.length_cons, List.length_take, List.length_drop] at *; omega) | (have h_ := headS_range (fRead d0).1; omega))) (Ow.nil _ _))
      all_goals (first | rfl | (first | (rw [sec_no1 (by assumption)] <;> rfl) | (rw [sec_no2 (by first | assumption | simpa using ‹_›)] <;> rfl) | (rw [sec_no3 (by assumption) (by simp [*]) (com_no1 hp (by omega) (by assumption))] <;> rfl) | (rw [sec_no3 (by assumption) (by simp [*]) (com_no2 hp (by omega) (by assumption) (by assumption))] <;> rfl) | (rw [sec_yes (by assumption) (by simp [*]) (com_end hp (by omega))] <;> first | rfl | (done))))
    · -- FF
      refine VC.skip ?_
      refine outN ?_
      refine VC.seq ?_
      refine VC.rs ?_
      refine VO.mv ?_
      refine VO.mv ?_
      refine VO.keep [109, 103, 102, 0] [(109, mone g8 (.cells [Value.int .i64 ((headS ((fRead d0).1)).1.1), Value.int .i64 ((headS ((fRead d0).1)).1.2.1), Value.slice none (0) (0)].toArray 24 (0, 0))), (103, m3), (102, mone g1 (.cells [Value.int .i64 (0), Value.int .i64 (0), Value.slice none (0) (0)].toArray 24 (0, 0))), (0, wm W)] (by kernel_rfl) ?_
      refine VO.k14 0 2 3 4 5 6 7 8 9 10 22 31 33 34 ?_
      refine VC.block ?_
      refine VC.inv ((111, mnil) :: _) (fun _ h => h.nilc 111) ?_
      refine VC.loop (G := (List DCommit) × (Option Addr) × Nat × Mem × Int × Nat) (fun g => [(6, Value.int .i64 ((g.2.2.2.2.1))), (34, Value.int .i64 ((((g.2.2.2.2.2) : Nat) : Int))), (0, Value.slice A0 (d0.length) (c0)), (2, Value.pointer (some ⟨g1, 0, none⟩)), (5, Value.slice A3_0 (((fRead d0).1).length) (c3_0)), (7, Value.int .i64 ((fRead d0).2.2)), (8, Value.pointer (some ⟨g8, 0, none⟩)), (9, Value.int .i64 ((headS ((fRead d0).1)).2.1)), (10, Value.bool ((headS ((fRead d0).1)).2.2)), (22, Value.bool (decide (¬ ((fRead d0).2.2) = 0))), (31, Value.bool (!((headS ((fRead d0).1)).2.2))), (33, Value.int .i64 ((headS ((fRead d0).1)).2.1))]) (fun g => [(111, (g.2.2.2.1)), (109, mone g8 (.cells [Value.int .i64 ((headS ((fRead d0).1)).1.1), Value.int .i64 ((headS ((fRead d0).1)).1.2.1), Value.slice (g.2.1) ((g.1).length) ((g.2.2.1))].toArray 24 (0, 0))), (103, m3), (102, mone g1 (.cells [Value.int .i64 (0), Value.int .i64 (0), Value.slice none (0) (0)].toArray 24 (0, 0))), (0, wm W)]) (fun g => (comGo (headS (fRead d0).1).2.1.toNat d0 [] (fRead d0).2.1 = comGo ((headS (fRead d0).1).2.1.toNat - (g.2.2.2.2.2)) d0 (g.1) (g.2.2.2.2.1)) ∧ (0 ≤ (g.2.2.2.2.1) ∧ (g.2.2.2.2.1) ≤ d0.length) ∧ ((g.2.2.2.2.2) ≤ (headS (fRead d0).1).2.1.toNat) ∧ ((g.1).length = (g.2.2.2.2.2)) ∧ (Ow (.sl TCommit) (g.2.2.2.1) [.slice (g.2.1) (g.1).length (g.2.2.1)] (g.1))) (fun g => (headS (fRead d0).1).2.1.toNat - (g.2.2.2.2.2)) ([], none, 0, mnil, (fRead d0).2.1, 0) (⟨by rfl, by (dsimp only; omega), by (dsimp only; omega), by rfl, (Ow.nil TCommit mnil)⟩) ⟨⟨rfl, rfl, rfl, rfl, rfl, rfl, rfl, rfl, rfl, rfl, rfl, rfl, trivial⟩, fun _ h => h.sub [111, 109, 103, 102, 0]⟩ ?_
      rintro ⟨cs, cs_A, cs_c, cs_m, at_, j⟩ ⟨hp, ha0, hj, hl, h_cs⟩
      replace hp : comGo (headS (fRead d0).1).2.1.toNat d0 [] (fRead d0).2.1 = comGo ((headS (fRead d0).1).2.1.toNat - j) d0 cs at_ := hp
      replace ha0 : 0 ≤ at_ ∧ at_ ≤ d0.length := ha0
      replace hj : j ≤ (headS (fRead d0).1).2.1.toNat := hj
      replace hl : cs.length = j := hl
      replace h_cs : Ow (.sl TCommit) cs_m [.slice cs_A cs.length cs_c] cs := h_cs
      show VC _ _ _ _ _ [(6, Value.int .i64 (at_)), (34, Value.int .i64 (((j : Nat) : Int))), (0, Value.slice A0 (d0.length) (c0)), (2, Value.pointer (some ⟨g1, 0, none⟩)), (5, Value.slice A3_0 (((fRead d0).1).length) (c3_0)), (7, Value.int .i64 ((fRead d0).2.2)), (8, Value.pointer (some ⟨g8, 0, none⟩)), (9, Value.int .i64 ((headS ((fRead d0).1)).2.1)), (10, Value.bool ((headS ((fRead d0).1)).2.2)), (22, Value.bool (decide (¬ ((fRead d0).2.2) = 0))), (31, Value.bool (!((headS ((fRead d0).1)).2.2))), (33, Value.int .i64 ((headS ((fRead d0).1)).2.1))] [(111, cs_m), (109, mone g8 (.cells [Value.int .i64 ((headS ((fRead d0).1)).1.1), Value.int .i64 ((headS ((fRead d0).1)).1.2.1), Value.slice cs_A (cs.length) (cs_c)].toArray 24 (0, 0))), (103, m3), (102, mone g1 (.cells [Value.int .i64 (0), Value.int .i64 (0), Value.slice none (0) (0)].toArray 24 (0, 0))), (0, wm W)]
      have l_cs : cs.length ≤ cs_c := by obtain ⟨_, _, he, hl, _⟩ := h_cs.slice; simp only [Value.slice.injEq] at he; omega
      have k_cs : cs_c ≤ 9223372036854775807 := by obtain ⟨_, _, he, _, hl⟩ := h_cs.slice; simp only [Value.slice.injEq, maxLen] at he hl; omega
      have hr := headS_range (fRead d0).1
      refine VC.rs ?_
      refine VO.y rfl (.lss rfl rfl) ?_
      refine VO.k13 0 2 5 6 7 8 9 10 22 31 33 34 35 ?_
      refine VC.seq ?_
      refine VC.cond rfl (fun hc12 => ?_) (fun hc12 => ?_)
      · -- FFT
        refine VC.skip ?_
        refine outN ?_
        refine VC.seq ?_
        refine VC.block ?_
        refine VC.rs ?_
        refine VO.mv ?_
        refine VO.mv ?_
        obtain ⟨A13, hA13, hs13⟩ := h0.drop 1 ((at_).toNat) rfl (by first | omega | (simp only [List.length_append, List.length_nil, List.length_cons, List.length_take, List.length_drop] at *; omega) | (have h_ := headS_range (fRead d0).1; omega))
        refine VO.y rfl (.slLI ((at_).toNat) A13 rfl rfl tsl25 (by first | omega | (simp only [List.length_append, List.length_nil, List.length_cons, List.length_take, List.length_drop] at *; omega) | (have h_ := headS_range (fRead d0).1; omega)) hA13 (by first | omega | (simp only [List.length_append, List.length_nil, List.length_cons, List.length_take, List.length_drop] at *; omega) | (have h_ := headS_range (fRead d0).1; omega))) ?_
        refine VO.callN 114 rfl fnOk91 rfl (fun W hW => fRead_ok W (Rd.mono hs13 (hW.at (i := 0) rfl))) (fun v14 m14 hv14 => ?_)
        obtain ⟨s14_0, rfl, f14_0⟩ := hv14
        have hfa15 := fRead_bounds (d0.drop ((at_).toNat))
        obtain ⟨A14_0, c14_0, eq14_0, l14_0, k14_0⟩ := f14_0.slice
        subst eq14_0
        simp only [maxLen] at k14_0
        refine VO.mv ?_
        refine VO.y rfl (.ext rfl rfl) ?_
        refine VO.y rfl (.ext rfl rfl) ?_
        refine VO.y rfl (.ext rfl rfl) ?_
        refine VO.as ?_
        refine VO.as ?_
        refine VO.as ?_
        refine VO.k16 0 2 5 6 7 8 9 10 11 12 13 22 31 33 34 35 ?_
        refine VC.seq ?_
        refine VC.rs ?_
        refine VO.mv ?_
        refine VO.y rfl (.neq rfl rfl) ?_
        refine VO.keep [114, 111, 109, 103, 102, 0] [(114, m14), (111, cs_m), (109, mone g8 (.cells [Value.int .i64 ((headS ((fRead d0).1)).1.1), Value.int .i64 ((headS ((fRead d0).1)).1.2.1), Value.slice cs_A (cs.length) (cs_c)].toArray 24 (0, 0))), (103, m3), (102, mone g1 (.cells [Value.int .i64 (0), Value.int .i64 (0), Value.slice none (0) (0)].toArray 24 (0, 0))), (0, wm W)] (by kernel_rfl) ?_
        refine VO.k17 0 2 5 6 7 8 9 10 11 12 13 22 31 33 34 35 45 ?_
        refine VC.cond rfl (fun hc16 => ?_) (fun hc16 => ?_)
        · -- FFTT
          refine VC.rs ?_
          refine VO.y rfl (.bst (cs := [Value.int .i64 (0), Value.int .i64 (0), Value.slice none (0) (0)]) rfl tst24 tz24 rfl) ?_
          refine VO.store (k := 3) (c' := [Value.int .i64 (0), Value.int .i64 (0), Value.slice none (0) (0)]) 102 rfl rfl (.inl tk24) rfl rfl rfl rfl rfl ?_
          refine VO.as ?_
          refine VO.as ?_
          refine VO.k19 0 2 3 4 5 6 7 8 9 10 11 12 13 22 31 33 34 35 45 ?_
          refine VC.ret ?_
          refine outR ?_
          refine outBR ?_
          refine outR ?_
          refine outR ?_
          refine outBR ?_
          refine outR ?_
          refine ⟨_, _, res_run (rs := [.cell 2 24, .tmp 3, .tmp 4]) rfl (.agg 102 rfl tk24 rfl ⟨_, _, _, mone_self _ _, Nat.le_of_ble_eq_true rfl, rfl⟩ (.tmp rfl (.tmp rfl .nil))), fun W_ hI => out_of (l := []) hI [] rfl rfl (mle_refl _) (fun hS_ => ?_)⟩
          dsimp only [packV]
          have he0 : ((secRead d0).1 : Ty.Den TSection) = (0, 0, []) := by first | rfl | (first | (rw [sec_no1 (by assumption)] <;> rfl) | (rw [sec_no2 (by first | assumption | simpa using ‹_›)] <;> rfl) | (rw [sec_no3 (by assumption) (by simp [*]) (com_no1 hp (by omega) (by assumption))] <;> rfl) | (rw [sec_no3 (by assumption) (by simp [*]) (com_no2 hp (by omega) (by assumption) (by assumption))] <;> rfl) | (rw [sec_yes (by assumption) (by simp [*]) (com_end hp (by omega))] <;> first | rfl | (done)))
          refine ⟨[Value.int .i64 (0), Value.int .i64 (0), Value.slice none (0) (0)], ?_, ?_⟩
          rotate_left
          · rw [he0]; exact (mkO_Section 0 0 [] (Seps.nilAt 0 hS_) (by simp only [inK]; (first | omega | (simp only [List.length_append, List.length_nil, List.length_cons, List.length_take, List.length_drop] at *; omega) | (have h_ := headS_range (fRead d0).1; omega))) (by simp only [inK]; (first | omega | (simp only [List.length_append, List.length_nil, List.length_cons, List.length_take, List.length_drop] at *; omega) | (have h_ := headS_range (fRead d0).1; omega))) (Ow.nil _ _))
          all_goals (first | rfl | (first | (rw [sec_no1 (by assumption)] <;> rfl) | (rw [sec_no2 (by first | assumption | simpa using ‹_›)] <;> rfl) | (rw [sec_no3 (by assumption) (by simp [*]) (com_no1 hp (by omega) (by assumption))] <;> rfl) | (rw [sec_no3 (by assumption) (by simp [*]) (com_no2 hp (by omega) (by assumption) (by assumption))] <;> rfl) | (rw [sec_yes (by assumption) (by simp [*]) (com_end hp (by omega))] <;> first | rfl | (done))))
        · -- FFTF
          refine VC.skip ?_
          refine outN ?_
          refine VC.rs ?_
          refine VO.mv ?_
          refine VO.callN 117 rfl fnOk93 rfl (fun W hW => cDecode_ok_ W (OwnL.rd (Ow.ownl f14_0 rfl mnil) (hW.at (i := 114) rfl) (mle_nil _))) (fun v17 m17 hv17 => ?_)
          obtain ⟨s17_0, rfl, f17_0⟩ := hv17
          have hfa18 := cDecode_fits ((fRead (d0.drop ((at_).toNat))).1)
          obtain ⟨q17_0_A2, q17_0_c2, q17_0_n2, rfl, q17_0_S, q17_0_0, q17_0_1, q17_0_2⟩ := openO_Commit (x0 := ((cDecode ((fRead (d0.drop ((at_).toNat))).1)).1).1) (x1 := ((cDecode ((fRead (d0.drop ((at_).toNat))).1)).1).2.1) (x2 := ((cDecode ((fRead (d0.drop ((at_).toNat))).1)).1).2.2) f17_0
          simp only [inK] at q17_0_0
          simp only [inK] at q17_0_1
          have q17_0_r2 := Rd.room (q17_0_2.rd (mle_refl _))
          refine VO.inv _ (fun _ h => h.parts (i := 117) rfl q17_0_S [119]) ?_
          refine VO.mv ?_
          refine VO.y rfl (.ext rfl rfl) ?_
          refine VO.y rfl (.ext rfl rfl) ?_
          refine VO.alloc 121 rfl tz32 (fun g20 => ?_)
          refine VO.store (k := 3) (c' := [Value.int .i64 (((cDecode ((fRead (d0.drop ((at_).toNat))).1)).1).1), Value.int .i64 (((cDecode ((fRead (d0.drop ((at_).toNat))).1)).1).2.1), Value.slice q17_0_A2 ((((cDecode ((fRead (d0.drop ((at_).toNat))).1)).1).2.2).length) (q17_0_c2)]) 121 rfl rfl (.inl tk32) rfl rfl rfl rfl rfl ?_
          refine VO.as ?_
          refine VO.k18 0 2 5 6 7 8 9 10 11 12 13 14 22 31 33 34 35 45 ?_
          refine VC.seq ?_
          refine VC.rs ?_
          refine VO.mv ?_
          refine VO.y rfl (.neq rfl rfl) ?_
          refine VO.k19 0 2 5 6 7 8 9 10 11 12 13 14 22 31 33 34 35 45 53 ?_
          refine VC.cond rfl (fun hc22 => ?_) (fun hc22 => ?_)
          · -- FFTFT
            refine VC.rs ?_
            refine VO.y rfl (.bst (cs := [Value.int .i64 (0), Value.int .i64 (0), Value.slice none (0) (0)]) rfl tst24 tz24 rfl) ?_
            refine VO.store (k := 3) (c' := [Value.int .i64 (0), Value.int .i64 (0), Value.slice none (0) (0)]) 102 rfl rfl (.inl tk24) rfl rfl rfl rfl rfl ?_
            refine VO.as ?_
            refine VO.as ?_
            refine VO.keep [121, 119, 114, 111, 109, 103, 102, 0] [(121, mone g20 (.cells [Value.int .i64 (((cDecode ((fRead (d0.drop ((at_).toNat))).1)).1).1), Value.int .i64 (((cDecode ((fRead (d0.drop ((at_).toNat))).1)).1).2.1), Value.slice q17_0_A2 ((((cDecode ((fRead (d0.drop ((at_).toNat))).1)).1).2.2).length) (q17_0_c2)].toArray 32 (0, 0))), (119, q17_0_n2), (114, m14), (111, cs_m), (109, mone g8 (.cells [Value.int .i64 ((headS ((fRead d0).1)).1.1), Value.int .i64 ((headS ((fRead d0).1)).1.2.1), Value.slice cs_A (cs.length) (cs_c)].toArray 24 (0, 0))), (103, m3), (102, mone g1 (.cells [Value.int .i64 (0), Value.int .i64 (0), Value.slice none (0) (0)].toArray 24 (0, 0))), (0, wm W)] (by kernel_rfl) ?_
            refine VO.k21 0 2 3 4 5 6 7 8 9 10 11 12 13 14 22 31 33 34 35 45 53 ?_
            refine VC.ret ?_
            refine outR ?_
            refine outBR ?_
            refine outR ?_
            refine outR ?_
            refine outBR ?_
            refine outR ?_
            refine ⟨_, _, res_run (rs := [.cell 2 24, .tmp 3, .tmp 4]) rfl (.agg 102 rfl tk24 rfl ⟨_, _, _, mone_self _ _, Nat.le_of_ble_eq_true rfl, rfl⟩ (.tmp rfl (.tmp rfl .nil))), fun W_ hI => out_of (l := []) hI [] rfl rfl (mle_refl _) (fun hS_ => ?_)⟩
            dsimp only [packV]
            have he0 : ((secRead d0).1 : Ty.Den TSection) = (0, 0, []) := by first | rfl | (first | (rw [sec_no1 (by assumption)] <;> rfl) | (rw [sec_no2 (by first | assumption | simpa using ‹_›)] <;> rfl) | (rw [sec_no3 (by assumption) (by simp [*]) (com_no1 hp (by omega) (by assumption))] <;> rfl) | (rw [sec_no3 (by assumption) (by simp [*]) (com_no2 hp (by omega) (by assumption) (by assumption))] <;> rfl) | (rw [sec_yes (by assumption) (by simp [*]) (com_end hp (by omega))] <;> first | rfl | (done)))
            refine ⟨[Value.int .i64 (0), Value.int .i64 (0), Value.slice none (0) (0)], ?_, ?_⟩
            rotate_left
            · rw [he0]; exact (mkO_Section 0 0 [] (Seps.nilAt 0 hS_) (by simp only [inK]; (first | omega | (simp only [List.length_append, List.length_nil, List.length_cons, List.length_take, List.length_drop] at *; omega) | (have h_ := headS_range (fRead d0).1; omega))) (by simp only [inK]; (first | omega | (simp only [List.length_append, List.length_nil, List.length_cons, List.length_take, List.length_drop] at *; omega) | (have h_ := headS_range (fRead d0).1; omega))) (Ow.nil _ _))
            all_goals (first | rfl | (first | (rw [sec_no1 (by assumption)] <;> rfl) | (rw [sec_no2 (by first | assumption | simpa using ‹_›)] <;> rfl) | (rw [sec_no3 (by assumption) (by simp [*]) (com_no1 hp (by omega) (by assumption))] <;> rfl) | (rw [sec_no3 (by assumption) (by simp [*]) (com_no2 hp (by omega) (by assumption) (by assumption))] <;> rfl) | (rw [sec_yes (by assumption) (by simp [*]) (com_end hp (by omega))] <;> first | rfl | (done))))
          · -- FFTFF
            refine VC.skip ?_
            refine outN ?_
            refine VC.reg ?_
            refine VO.y rfl (.fa rfl tst24 rfl) ?_
            refine VO.y rfl (.ld1 109 rfl tk22 rfl (cellsAt_one rfl rfl)) ?_
            refine VO.y rfl (.ldA 121 rfl tk32 rfl (cellsAt_one rfl rfl)) ?_
            refine VO.bsl (cs := [Value.int .i64 (((cDecode ((fRead (d0.drop ((at_).toNat))).1)).1).1), Value.int .i64 (((cDecode ((fRead (d0.drop ((at_).toNat))).1)).1).2.1), Value.slice q17_0_A2 ((((cDecode ((fRead (d0.drop ((at_).toNat))).1)).1).2.2).length) (q17_0_c2)]) 124 rfl rfl tsl22 tz32 rfl rfl (fun g23 => ?_)
            refine VO.appO (e := TCommit) 111 119 124 rfl rfl rfl tsl22 tz32 rfl rfl rfl rfl h_cs (show Ow TCommit _ _ ((cDecode ((fRead (d0.drop ((at_).toNat))).1)).1) from (mkO_Commit (((cDecode ((fRead (d0.drop ((at_).toNat))).1)).1).1) (((cDecode ((fRead (d0.drop ((at_).toNat))).1)).1).2.1) (((cDecode ((fRead (d0.drop ((at_).toNat))).1)).1).2.2) (Seps.one (mle_refl _)) (by simp only [inK]; (first | omega | (simp only [List.length_append, List.length_nil, List.length_cons, List.length_take, List.length_drop] at *; omega) | (have h_ := headS_range (fRead d0).1; omega))) (by simp only [inK]; (first | omega | (simp only [List.length_append, List.length_nil, List.length_cons, List.length_take, List.length_drop] at *; omega) | (have h_ := headS_range (fRead d0).1; omega))) (OwnL.ow (Ow.ownl q17_0_2 rfl mnil) rfl))) Try.underlying22 (cellsAt_one rfl rfl) (by simp only [maxLen]; (first | omega | (simp only [List.length_append, List.length_nil, List.length_cons, List.length_take, List.length_drop] at *; omega) | (have h_ := headS_range (fRead d0).1; omega))) (by first | omega | (simp only [List.length_append, List.length_nil, List.length_cons, List.length_take, List.length_drop] at *; omega) | (have h_ := headS_range (fRead d0).1; omega)) (by decide) (fun v25 m25 ho25 => ?_)
            obtain ⟨A25, c25, rfl, l25, k25⟩ := ho25.slice
            simp only [maxLen] at k25
            refine VO.mv ?_
            refine VO.mv ?_
            refine VO.y rfl (.add rfl rfl rfl ⟨by first | omega | (simp only [List.length_append, List.length_nil, List.length_cons, List.length_take, List.length_drop] at *; omega) | (have h_ := headS_range (fRead d0).1; omega), by first | omega | (simp only [List.length_append, List.length_nil, List.length_cons, List.length_take, List.length_drop] at *; omega) | (have h_ := headS_range (fRead d0).1; omega)⟩) ?_
            refine VO.y rfl (.fa rfl tst24 rfl) ?_
            refine VO.store (k := 1) (c' := [Value.int .i64 ((headS ((fRead d0).1)).1.1), Value.int .i64 ((headS ((fRead d0).1)).1.2.1), Value.slice A25 ((cs ++ [((cDecode ((fRead (d0.drop ((at_).toNat))).1)).1)]).length) (c25)]) 109 rfl rfl (.inr ⟨tk22, rfl⟩) rfl rfl rfl rfl rfl ?_
            refine VO.as ?_
            refine VO.keep [111, 121, 114, 109, 103, 102, 0] [(111, m25), (121, mone g20 (.cells [Value.int .i64 (((cDecode ((fRead (d0.drop ((at_).toNat))).1)).1).1), Value.int .i64 (((cDecode ((fRead (d0.drop ((at_).toNat))).1)).1).2.1), Value.slice q17_0_A2 ((((cDecode ((fRead (d0.drop ((at_).toNat))).1)).1).2.2).length) (q17_0_c2)].toArray 32 (0, 0))), (114, m14), (109, mone g8 (.cells [Value.int .i64 ((headS ((fRead d0).1)).1.1), Value.int .i64 ((headS ((fRead d0).1)).1.2.1), Value.slice A25 ((cs ++ [((cDecode ((fRead (d0.drop ((at_).toNat))).1)).1)]).length) (c25)].toArray 24 (0, 0))), (103, m3), (102, mone g1 (.cells [Value.int .i64 (0), Value.int .i64 (0), Value.slice none (0) (0)].toArray 24 (0, 0))), (0, wm W)] (by kernel_rfl) ?_
            refine VO.k19 0 2 5 6 7 8 9 10 11 12 13 14 22 31 33 34 35 45 53 ?_
            refine outBN ?_
            refine outN ?_
            refine VC.reg ?_
            refine VO.y rfl (.add (c := ((j + 1 : Nat) : Int)) rfl rfl (by omega) ⟨by first | omega | (simp only [List.length_append, List.length_nil, List.length_cons, List.length_take, List.length_drop] at *; omega) | (have h_ := headS_range (fRead d0).1; omega), by first | omega | (simp only [List.length_append, List.length_nil, List.length_cons, List.length_take, List.length_drop] at *; omega) | (have h_ := headS_range (fRead d0).1; omega)⟩) ?_
            refine VO.mv ?_
            refine VO.k19 0 2 5 6 7 8 9 10 11 12 13 14 22 31 33 34 35 45 53 ?_
            exact outN ⟨⟨cs ++ [((cDecode ((fRead (d0.drop ((at_).toNat))).1)).1)], A25, c25, m25, at_ + ((fRead (d0.drop ((at_).toNat))).2.1), j + 1⟩, ⟨by (have h_ := com_next hp (by omega) (by assumption) (by assumption); rw [Nat.sub_sub] at h_; exact h_), by (have h_ := com_read d0 at_ ha0.1 ha0.2; dsimp only; omega), by (dsimp only; omega), by (simp only [List.length_append, List.length_cons, List.length_nil]; omega), ho25⟩, by first | omega | (simp only [List.length_append, List.length_cons, List.length_nil]; omega), ⟨⟨rfl, rfl, rfl, rfl, rfl, rfl, rfl, rfl, rfl, rfl, rfl, rfl, trivial⟩, fun _ h => Inv.sub h [111, 109, 103, 102, 0]⟩⟩
      · -- FFF
        refine VC.exit ?_
        refine outE ?_
        refine outE ?_
        refine outBB ?_
        refine outN ?_
        refine VC.seq ?_
        refine VC.regD _ 7 [(0, true), (1, true), (2, true), (3, false), (4, true), (5, false), (6, true)] follows (by kernel_rfl) (fun _ h => h.sub [111, 109, 103, 0]) ?_
        refine VD.y rfl rfl (.inl rfl) (.ldA 109 rfl tk24 rfl (cellsAt_one rfl rfl)) ?_
        refine VD.y rfl rfl (.inl rfl) (.mv rfl) ?_
        refine VD.y rfl rfl (.inl rfl) (.ldA 109 rfl tk24 rfl (cellsAt_one rfl rfl)) ?_
        refine VD.callN 126 rfl rfl (.inl rfl) fnOk9 rfl (fun _ h => h.sub [111, 109, 103, 0]) (fun W hW => sectCheck_ok W (mk_Section (m := wm W) ((headS ((fRead d0).1)).1.1) ((headS ((fRead d0).1)).1.2.1) cs (by simp only [inK]; (first | omega | (simp only [List.length_append, List.length_nil, List.length_cons, List.length_take, List.length_drop] at *; omega) | (have h_ := headS_range (fRead d0).1; omega))) (by simp only [inK]; (first | omega | (simp only [List.length_append, List.length_nil, List.length_cons, List.length_take, List.length_drop] at *; omega) | (have h_ := headS_range (fRead d0).1; omega))) (Ow.rd h_cs (hW.at (i := 111) rfl)))) (fun v26 m26 hv26 => ?_)
        try dsimp only at hv26
        subst hv26
        have hfa27 := sectCheck_range ((headS ((fRead d0).1)).1.1, (headS ((fRead d0).1)).1.2.1, cs)
        refine VD.y rfl rfl (.inl rfl) (.eql rfl rfl) ?_
        refine VD.store (k := 3) (c' := [Value.int .i64 ((headS ((fRead d0).1)).1.1), Value.int .i64 ((headS ((fRead d0).1)).1.2.1), Value.slice cs_A (cs.length) (cs_c)]) 102 rfl rfl rfl (.inl tk24) rfl rfl rfl rfl rfl (fun _ h => h.sub [111, 109, 103, 0]) ?_
        refine VD.y rfl rfl (.inl rfl) (.as rfl) ?_
        refine VD.nil rfl ?_ rfl
        refine VO.as ?_
        refine VO.k15 0 2 3 4 5 6 7 8 9 10 22 31 33 34 35 ?_
        refine outN ?_
        refine VC.ret ?_
        refine ⟨_, _, res_run (rs := [.cell 2 24, .tmp 3, .tmp 4]) rfl (.agg 102 rfl tk24 rfl ⟨_, _, _, mone_self _ _, Nat.le_of_ble_eq_true rfl, rfl⟩ (.tmp rfl (.tmp rfl .nil))), fun W_ hI => out_of (l := [cs_m]) hI [111] rfl rfl (mle_refl _) (fun hS_ => ?_)⟩
        dsimp only [packV]
        have he0 : ((secRead d0).1 : Ty.Den TSection) = ((headS ((fRead d0).1)).1.1, (headS ((fRead d0).1)).1.2.1, cs) := by first | rfl | (first | (rw [sec_no1 (by assumption)] <;> rfl) | (rw [sec_no2 (by first | assumption | simpa using ‹_›)] <;> rfl) | (rw [sec_no3 (by assumption) (by simp [*]) (com_no1 hp (by omega) (by assumption))] <;> rfl) | (rw [sec_no3 (by assumption) (by simp [*]) (com_no2 hp (by omega) (by assumption) (by assumption))] <;> rfl) | (rw [sec_yes (by assumption) (by simp [*]) (com_end hp (by omega))] <;> first | rfl | (done)))
        refine ⟨[Value.int .i64 ((headS ((fRead d0).1)).1.1), Value.int .i64 ((headS ((fRead d0).1)).1.2.1), Value.slice cs_A (cs.length) (cs_c)], ?_, ?_⟩
        rotate_left
        · rw [he0]; exact (mkO_Section ((headS ((fRead d0).1)).1.1) ((headS ((fRead d0).1)).1.2.1) cs hS_ (by simp only [inK]; (first | omega | (simp only [List.length_append, List.length_nil, List.length_cons, List.length_take, List.length_drop] at *; omega) | (have h_ := headS_range (fRead d0).1; omega))) (by simp only [inK]; (first | omega | (simp only [List.length_append, List.length_nil, List.length_cons, List.length_take, List.length_drop] at *; omega) | (have h_ := headS_range (fRead d0).1; omega))) h_cs)
        all_goals (first | rfl | (first | (rw [sec_no1 (by assumption)] <;> rfl) | (rw [sec_no2 (by first | assumption | simpa using ‹_›)] <;> rfl) | (rw [sec_no3 (by assumption) (by simp [*]) (com_no1 hp (by omega) (by assumption))] <;> rfl) | (rw [sec_no3 (by assumption) (by simp [*]) (com_no2 hp (by omega) (by assumption) (by assumption))] <;> rfl) | (rw [sec_yes (by assumption) (by simp [*]) (com_end hp (by omega))] <;> first | rfl | (done))))
theorem oScan_ok (W : World) {v0 : Value} {d0 : List UInt8} (h0 : Rd (.sl .byte) (wm W) [v0] d0) (e0 : d0.length ≤ 1000000000000) : CallR Try.prog 18 [v0] W (mnil) (fun v m' => ∃ (s0 : Value), v = .tuple #[s0, .int .i64 ((scanF d0).2)] ∧ Ow (.sl TSection) m' [s0] ((scanF d0).1)) := by
  obtain ⟨A0, c0, rfl, l0, k0⟩ := h0.slice
  simp only [maxLen] at k0
  refine CallR.ofA (n := 37) Try.func18 rfl rfl rfl ?_
  refine VC.rs ?_
  refine VO.as ?_
  refine VO.as ?_
  refine VO.k3 0 2 3 ?_
  refine VC.rs ?_
  refine VO.as ?_
  refine VO.k4 0 2 3 4 ?_
  refine VC.rs ?_
  refine VO.as ?_
  refine VO.as ?_
  refine VO.keep [0] [(0, wm W)] (by kernel_rfl) ?_
  refine VO.k6 0 2 3 4 5 6 ?_
  refine VC.block ?_
  refine VC.inv ((101, mnil) :: _) (fun _ h => h.nilc 101) ?_
  refine VC.loop (G := (List DSection) × (Option Addr) × Nat × Mem × Int × Int × Nat) (fun g => [(4, Value.slice (g.2.1) ((g.1).length) ((g.2.2.1))), (5, Value.int .i64 ((g.2.2.2.2.1))), (6, Value.int .i64 ((g.2.2.2.2.2.1))), (0, Value.slice A0 (d0.length) (c0))]) (fun g => [(101, (g.2.2.2.1)), (0, wm W)]) (fun g => (scanF d0 = scanS (g.2.2.2.2.2.2) d0 (g.1) (g.2.2.2.2.1) (g.2.2.2.2.2.1)) ∧ (0 ≤ (g.2.2.2.2.1) ∧ (g.2.2.2.2.1) ≤ d0.length) ∧ ((d0.length : Int) - (g.2.2.2.2.1) ≤ (g.2.2.2.2.2.2)) ∧ (((g.1).length : Int) ≤ (g.2.2.2.2.1)) ∧ (Ow (.sl TSection) (g.2.2.2.1) [.slice (g.2.1) (g.1).length (g.2.2.1)] (g.1))) (fun g => ((d0.length : Int) - (g.2.2.2.2.1)).toNat) ([], none, 0, mnil, 0, 0, d0.length) (⟨by rfl, by (dsimp only; omega), by (dsimp only; omega), by simp, (Ow.nil TSection mnil)⟩) ⟨⟨rfl, rfl, rfl, rfl, trivial⟩, fun _ h => h.sub [101, 0]⟩ ?_
  rintro ⟨out, out_A, out_c, out_m, at_, ep, n⟩ ⟨hp, ha0, hn, hl, h_out⟩
  replace hp : scanF d0 = scanS n d0 out at_ ep := hp
  replace ha0 : 0 ≤ at_ ∧ at_ ≤ d0.length := ha0
  replace hn : (d0.length : Int) - at_ ≤ n := hn
  replace hl : (out.length : Int) ≤ at_ := hl
  replace h_out : Ow (.sl TSection) out_m [.slice out_A out.length out_c] out := h_out
  show VC _ _ _ _ _ [(4, Value.slice out_A (out.length) (out_c)), (5, Value.int .i64 (at_)), (6, Value.int .i64 (ep)), (0, Value.slice A0 (d0.length) (c0))] [(101, out_m), (0, wm W)]
  have l_out : out.length ≤ out_c := by obtain ⟨_, _, he, hl, _⟩ := h_out.slice; simp only [Value.slice.injEq] at he; omega
  have k_out : out_c ≤ 9223372036854775807 := by obtain ⟨_, _, he, _, hl⟩ := h_out.slice; simp only [Value.slice.injEq, maxLen] at he hl; omega
  refine VC.block ?_
  refine VC.rs ?_
  refine VO.mv ?_
  refine VO.mv ?_
  obtain ⟨A2, hA2, hs2⟩ := h0.drop 1 ((at_).toNat) rfl bd
  refine VO.y rfl (.slLI ((at_).toNat) A2 rfl rfl tsl25 bd hA2 bd) ?_
  refine VO.callN 103 rfl fnOk60 rfl (fun W hW => section_ok W (Rd.mono hs2 (hW.at (i := 0) rfl))) (fun v3 m3 hv3 => ?_)
  obtain ⟨s3_0, rfl, f3_0⟩ := hv3
  have hfa4 := secRead_bounds (d0.drop ((at_).toNat))
  obtain ⟨q3_0_A2, q3_0_c2, q3_0_n2, rfl, q3_0_S, q3_0_0, q3_0_1, q3_0_2⟩ := openO_Section (x0 := ((secRead (d0.drop ((at_).toNat))).1).1) (x1 := ((secRead (d0.drop ((at_).toNat))).1).2.1) (x2 := ((secRead (d0.drop ((at_).toNat))).1).2.2) f3_0
  simp only [inK] at q3_0_0
  simp only [inK] at q3_0_1
  have q3_0_r2 := Rd.room (q3_0_2.rd (mle_refl _))
  refine VO.inv _ (fun _ h => h.parts (i := 103) rfl q3_0_S [105]) ?_
  refine VO.mv ?_
  refine VO.y rfl (.ext rfl rfl) ?_
  refine VO.y rfl (.ext rfl rfl) ?_
  refine VO.y rfl (.ext rfl rfl) ?_
  refine VO.alloc 107 rfl tz24 (fun g6 => ?_)
  refine VO.store (k := 3) (c' := [Value.int .i64 (((secRead (d0.drop ((at_).toNat))).1).1), Value.int .i64 (((secRead (d0.drop ((at_).toNat))).1).2.1), Value.slice q3_0_A2 ((((secRead (d0.drop ((at_).toNat))).1).2.2).length) (q3_0_c2)]) 107 rfl rfl (.inl tk24) rfl rfl rfl rfl rfl ?_
  refine VO.as ?_
  refine VO.as ?_
  refine VO.k7 0 4 5 6 7 8 9 ?_
  refine VC.seq ?_
  refine VC.rs ?_
  refine VO.mv ?_
  refine VO.y rfl (.not rfl) ?_
  refine VO.mv ?_
  refine VO.decBN (t := 20) rfl (fun hc8 => ?_) (fun hc8 => ?_)
  · -- T
    refine VO.gN ?_
    refine VO.gN ?_
    refine VO.gN ?_
    refine VO.gN ?_
    refine VO.y rfl (.pT rfl rfl) ?_
    refine VO.k8 0 4 5 6 7 8 9 25 ?_
    refine VC.condT rfl ?_
    refine VC.rs ?_
    refine VO.mv ?_
    refine VO.mv ?_
    refine VO.as ?_
    refine VO.as ?_
    refine VO.keep [107, 105, 101, 0] [(107, mone g6 (.cells [Value.int .i64 (((secRead (d0.drop ((at_).toNat))).1).1), Value.int .i64 (((secRead (d0.drop ((at_).toNat))).1).2.1), Value.slice q3_0_A2 ((((secRead (d0.drop ((at_).toNat))).1).2.2).length) (q3_0_c2)].toArray 24 (0, 0))), (105, q3_0_n2), (101, out_m), (0, wm W)] (by kernel_rfl) ?_
    refine VO.k10 0 2 3 4 5 6 7 8 9 25 ?_
    refine VC.ret ?_
    refine outR ?_
    refine outBR ?_
    refine outR ?_
    refine outBR ?_
    refine ⟨_, _, res_run (rs := [.tmp 2, .tmp 3]) rfl (.tmp rfl (.tmp rfl .nil)), fun W_ hI => out_of (l := [out_m]) hI [101] rfl rfl (mle_refl _) (fun hS_ => ?_)⟩
    dsimp only [packV]
    have he0 : ((scanF d0).1 : Ty.Den (.sl TSection)) = out := by first | rfl | (first | (rw [show scanF d0 = _ from scan_end hp (.inl (by first | assumption | simpa using ‹_›))]; done) | (rw [show scanF d0 = _ from scan_end hp (.inr (by omega))]; done))
    refine ⟨Value.slice out_A (out.length) (out_c), ?_, ?_⟩
    rotate_left
    · rw [he0]; exact (Ow.up h_out (hS_.1 _ (.head _)))
    all_goals (first | rfl | (first | (rw [show scanF d0 = _ from scan_end hp (.inl (by first | assumption | simpa using ‹_›))]; done) | (rw [show scanF d0 = _ from scan_end hp (.inr (by omega))]; done)))
  · -- F
    refine VO.gy rfl ⟨_, rfl, rfl⟩ (.fa rfl tst24 rfl) ?_
    refine VO.gy rfl ⟨_, rfl, rfl⟩ (.ld1 107 rfl tk3 rfl (cellsAt_one rfl rfl)) ?_
    refine VO.gy rfl ⟨_, rfl, rfl⟩ (.mv rfl) ?_
    refine VO.gy rfl ⟨_, rfl, rfl⟩ (.leq rfl rfl) ?_
    refine VO.y rfl (.pF rfl rfl) ?_
    refine VO.k8 0 4 5 6 7 8 9 25 ?_
    refine VC.cond rfl (fun hc9 => ?_) (fun hc9 => ?_)
    · -- FT
      refine VC.rs ?_
      refine VO.mv ?_
      refine VO.mv ?_
      refine VO.as ?_
      refine VO.as ?_
      refine VO.keep [107, 105, 101, 0] [(107, mone g6 (.cells [Value.int .i64 (((secRead (d0.drop ((at_).toNat))).1).1), Value.int .i64 (((secRead (d0.drop ((at_).toNat))).1).2.1), Value.slice q3_0_A2 ((((secRead (d0.drop ((at_).toNat))).1).2.2).length) (q3_0_c2)].toArray 24 (0, 0))), (105, q3_0_n2), (101, out_m), (0, wm W)] (by kernel_rfl) ?_
      refine VO.k10 0 2 3 4 5 6 7 8 9 25 ?_
      refine VC.ret ?_
      refine outR ?_
      refine outBR ?_
      refine outR ?_
      refine outBR ?_
      refine ⟨_, _, res_run (rs := [.tmp 2, .tmp 3]) rfl (.tmp rfl (.tmp rfl .nil)), fun W_ hI => out_of (l := [out_m]) hI [101] rfl rfl (mle_refl _) (fun hS_ => ?_)⟩
      dsimp only [packV]
      have he0 : ((scanF d0).1 : Ty.Den (.sl TSection)) = out := by first | rfl | (first | (rw [show scanF d0 = _ from scan_end hp (.inl (by first | assumption | simpa using ‹_›))]; done) | (rw [show scanF d0 = _ from scan_end hp (.inr (by omega))]; done))
      refine ⟨Value.slice out_A (out.length) (out_c), ?_, ?_⟩
      rotate_left
      · rw [he0]; exact (Ow.up h_out (hS_.1 _ (.head _)))
      all_goals (first | rfl | (first | (rw [show scanF d0 = _ from scan_end hp (.inl (by first | assumption | simpa using ‹_›))]; done) | (rw [show scanF d0 = _ from scan_end hp (.inr (by omega))]; done)))
    · -- FF
      refine VC.skip ?_
      refine outN ?_
      refine VC.regD _ 11 [(0, true), (1, true), (4, true), (5, true), (6, true), (7, true), (8, true), (2, false), (3, false), (9, true), (10, true)] follows (by kernel_rfl) (fun _ h => h.sub [107, 0]) ?_
      refine VD.y rfl rfl (.inl rfl) (.mv rfl) ?_
      refine VD.y rfl rfl (.inl rfl) (.ldA 107 rfl tk24 rfl (cellsAt_one rfl rfl)) ?_
      refine VD.y rfl rfl (.inl rfl) (.mv rfl) ?_
      refine VD.y rfl rfl (.inl rfl) (.mv rfl) ?_
      refine VD.y rfl rfl (.inl rfl) (.add rfl rfl rfl ⟨bd, bd⟩) ?_
      refine VD.y rfl rfl (.inl rfl) (.fa rfl tst24 rfl) ?_
      refine VD.y rfl rfl (.inl rfl) (.ld1 107 rfl tk3 rfl (cellsAt_one rfl rfl)) ?_
      refine VD.bsl (cs := [Value.int .i64 (((secRead (d0.drop ((at_).toNat))).1).1), Value.int .i64 (((secRead (d0.drop ((at_).toNat))).1).2.1), Value.slice q3_0_A2 ((((secRead (d0.drop ((at_).toNat))).1).2.2).length) (q3_0_c2)]) 111 rfl rfl rfl tsl41 tz24 rfl rfl (fun _ h => h.sub [107, 0]) (fun g10 => ?_)
      refine VD.appO (e := TSection) 101 105 111 rfl rfl rfl rfl tsl41 tz24 rfl rfl rfl rfl h_out (show Ow TSection _ _ ((secRead (d0.drop ((at_).toNat))).1) from (mkO_Section (((secRead (d0.drop ((at_).toNat))).1).1) (((secRead (d0.drop ((at_).toNat))).1).2.1) (((secRead (d0.drop ((at_).toNat))).1).2.2) (Seps.one (mle_refl _)) bdk bdk q3_0_2)) Try.underlying41 (cellsAt_one rfl rfl) bdm bd (by decide) (fun _ _ h => h.sub [107, 0]) (fun v12 m12 ho12 => ?_)
      obtain ⟨A12, c12, rfl, l12, k12⟩ := ho12.slice
      simp only [maxLen] at k12
      refine VD.y rfl rfl (.inl rfl) (.as rfl) ?_
      refine VD.y rfl rfl (.inl rfl) (.as rfl) ?_
      refine VD.nil rfl ?_ rfl
      refine VO.as ?_
      refine VO.keep [101, 107, 0] [(101, m12), (107, mone g6 (.cells [Value.int .i64 (((secRead (d0.drop ((at_).toNat))).1).1), Value.int .i64 (((secRead (d0.drop ((at_).toNat))).1).2.1), Value.slice q3_0_A2 ((((secRead (d0.drop ((at_).toNat))).1).2.2).length) (q3_0_c2)].toArray 24 (0, 0))), (0, wm W)] (by kernel_rfl) ?_
      refine VO.k8 0 4 5 6 7 8 9 25 ?_
      refine outBN ?_
      exact outN ⟨⟨out ++ [((secRead (d0.drop ((at_).toNat))).1)], A12, c12, m12, at_ + ((secRead (d0.drop ((at_).toNat))).2.1), ((secRead (d0.drop ((at_).toNat))).1).1, n - 1⟩, ⟨by exact scan_next hp ha0.1 hn (by simp [*]) (by omega), by (have h_ := sec_at d0 ha0.1 ha0.2; dsimp only; omega), by (have h_ := (secRead_bounds (d0.drop at_.toNat)).2.2.1 (by simp [*]); dsimp only; omega), by (have h_ := (secRead_bounds (d0.drop at_.toNat)).2.2.1 (by simp [*]); simp only [List.length_append, List.length_cons, List.length_nil]; omega), ho12⟩, by (have h_ := (secRead_bounds (d0.drop at_.toNat)).2.2.1 (by simp [*]); have h2_ := sec_at d0 ha0.1 ha0.2; dsimp only; omega), ⟨⟨rfl, rfl, rfl, rfl, trivial⟩, fun _ h => Inv.sub h [101, 0]⟩⟩
end
section
set_option linter.unusedVariables false
/-- file by file a front part -/
def leQ (p q : Dur) : Prop := ∀ f : Int, inF f → getF p f <+: getF q f
theorem leQ.trans {p q r : Dur} (h : leQ p q) (h' : leQ q r) : leQ p r := fun f hf => (h f hf).trans (h' f hf)
def begB (b a : Bytes) : Prop := a.length ≤ b.length ∧ b.take a.length = a
instance (b a : Bytes) : Decidable (begB b a) := by unfold begB; infer_instance
end
section
set_option linter.unusedVariables false
/-- what the files hold -/
def curD (d : DDisk) : Dur := play d.2.2.2.2.2.1 d.2.2.2.2.2.2
theorem cur_burn (d : DDisk) : curD (burnD d).1 = curD d := by unfold curD; rw [(burn_same d).2]
theorem dur_burn (d : DDisk) : (burnD d).1.2.2.2.2.2.1 = d.2.2.2.2.2.1 := by rw [(burn_same d).2]
theorem made_burn (d : DDisk) : (burnD d).1.1 = d.1 := (burn_same d).1
/-- a disk, on or off, with or without a fuse, to which there were only writes since it was synced -/
structure Pg (d : DDisk) (A S : Dur) : Prop where
  ok : okD d
  made : d.1 = true
  all : ∀ s ∈ d.2.2.2.2.2.2, s.1 = 0 ∧ inF s.2.1
  dur : d.2.2.2.2.2.1 = S
  ends : curD d = A
section
variable {d : DDisk} {A S : Dur} {f n k t : Int} {b : Bytes}
theorem Pg.right (h : Pg d A S) (ho : d.2.1 = false) : wrongD d = 0 := by unfold wrongD; rw [if_neg (by rw [h.made]; decide), if_neg (by rw [ho]; decide)]
theorem Pg.burn (h : Pg d A S) : Pg (burnD d).1 A S := ⟨burn_ok h.ok, by rw [made_burn]; exact h.made, by rw [(burn_same d).2]; exact h.all, by rw [dur_burn]; exact h.dur, by rw [cur_burn]; exact h.ends⟩
end
end
section
set_option linter.unusedVariables false
def Tw (d : DDisk) (r : DRDisk) : Prop := okD d ∧ fromR r = d
theorem Tw.keep {d d' : DDisk} {r : DRDisk} {x : Int} (h : Tw d r) (hk : okD d') (hn : nf d') : Tw d' (toR d' x) := ⟨hk, from_to hk hn⟩
theorem Tw.nf {d : DDisk} {r : DRDisk} (h : Tw d r) : nf d := by rw [← h.2]; exact nf_from r
section
variable {d : DDisk} {r : DRDisk} (h : Tw d r)
include h
theorem Tw.fuse {n : Int} : Tw (dFuse d n).1 (toR (dFuse (fromR r) n).1 r.2.2.2.2.2.1) ∧ (dFuse (fromR r) n).2 = (dFuse d n).2 := by rw [h.2]; exact ⟨h.keep (fuse_ok h.1) (nf_fuse h.nf), rfl⟩
theorem Tw.start {k t : Int} : Tw (dStart d k t).1 (toR (dStart (fromR r) k t).1 r.2.2.2.2.2.1) ∧ (dStart (fromR r) k t).2 = (dStart d k t).2 := by rw [h.2]; exact ⟨h.keep (start_ok h.1) (nf_start h.nf), rfl⟩
end
end
section
set_option linter.unusedVariables false
def riseS : Int → List DSection → Prop
  | _, [] => True
  | ep, s :: l => sectCheck s = 0 ∧ ep < s.1 ∧ riseS s.1 l
def sectEncs (l : List DSection) : Bytes := (l.map sectEnc).flatten
theorem sectEncs_cons (s : DSection) (l : List DSection) : sectEncs (s :: l) = sectEnc s ++ sectEncs l := rfl
theorem scan_rise : ∀ {l : List DSection} {B r : Bytes} {out : List DSection} {a k : Nat} {ep : Int}, riseS ep l → B.drop a = sectEncs l ++ r → B.length - a ≤ k → (secRead r).2.2 = false → scanS k B out (a : Int) ep = (out ++ l, ((a + (sectEncs l).length : Nat) : Int))
  | [], B, r, out, a, k, ep, _, hd, hk, hr => by
    have hd' : B.drop (a : Int).toNat = r := by rw [Int.toNat_natCast, hd]; rfl
    rw [scan_end rfl (.inl (by rw [hd']; exact hr))]
    simp [sectEncs]
  | s :: l, B, r, out, a, k, ep, h, hd, hk, hr => by
    obtain ⟨h1, h2, h3⟩ := h
    rw [sectEncs_cons, List.append_assoc] at hd
    have hd' : secRead (B.drop (a : Int).toNat) = (s, ((sectEnc s).length : Int), true) := by rw [Int.toNat_natCast, hd]; exact secRead_there h1 _
    have hl := congrArg List.length hd
    have hp := (sectEnc_len h1).2.2
    simp only [List.length_drop, List.length_append] at hl
    rw [scan_next rfl (Int.natCast_nonneg _) (by omega) (by rw [hd']; simp) (by rw [hd']; dsimp only; omega), hd']
    dsimp only
    have hn : B.drop (a + (sectEnc s).length) = sectEncs l ++ r := by rw [← List.drop_drop, hd, List.drop_left]
    rw [← Int.natCast_add, scan_rise h3 hn (by omega) hr, sectEncs_cons]
    simp [Nat.add_assoc]
theorem scan_whole {l : List DSection} {r : Bytes} (h : riseS 0 l) (hr : (secRead r).2.2 = false) : scanF (sectEncs l ++ r) = (l, ((sectEncs l).length : Int)) := by
  have := scan_rise (B := sectEncs l ++ r) (out := []) (a := 0) (k := (sectEncs l ++ r).length) h rfl (by simp) hr
  unfold scanF
  rw [show ((0 : Nat) : Int) = 0 from rfl] at this
  rw [this]; simp
theorem sec_nil : (secRead []).2.2 = false := by
  have h := fRead_bounds []
  have : ¬ (fRead []).2.2 = 0 := fun q => by have h1 := h.2.2.2.2.1 q; have h2 := h.2.1; simp only [List.length_nil] at h2; omega
  rw [sec_no1 this]
def smallS (s : DSection) : Prop := (∀ c ∈ s.2.2, c.2.2.length ≤ 40) ∧ s.2.2.length ≤ 40
instance (s : DSection) : Decidable (smallS s) := by unfold smallS; infer_instance
end
section
set_option linter.unusedVariables false
set_option linter.unusedSimpArgs false
set_option maxRecDepth 4000
theorem fnOk16 : fnOk Try.prog 16 = true := by kernel_rfl
theorem fnOk18 : fnOk Try.prog 18 = true := by kernel_rfl
theorem fnOk63 : fnOk Try.prog 63 = true := by kernel_rfl
theorem SameSections_ok (W : World) {v0 : Value} {d0 : List DSection} (h0 : Rd (.sl TSection) (wm W) [v0] d0) {v1 : Value} {d1 : List DSection} (h1 : Rd (.sl TSection) (wm W) [v1] d1) : CallR Try.prog 22 [v0, v1] W (mnil) (fun v m' => v = .bool (decide (d0 = d1))) := by
  obtain ⟨A0, c0, rfl, l0, k0⟩ := h0.slice
  simp only [maxLen] at k0
  obtain ⟨A1, c1, rfl, l1, k1⟩ := h1.slice
  simp only [maxLen] at k1
  refine CallR.ofA (n := 55) Try.func22 rfl rfl rfl ?_
  refine VC.rs ?_
  refine VO.as ?_
  refine VO.k3 0 1 4 ?_
  refine VC.seq ?_
  refine VC.rs ?_
  refine VO.mv ?_
  refine VO.y rfl (.lenS rfl tsl41) ?_
  refine VO.mv ?_
  refine VO.y rfl (.lenS rfl tsl41) ?_
  refine VO.y rfl (.neq rfl rfl) ?_
  refine VO.k4 0 1 4 10 ?_
  refine VC.cond rfl (fun hc1 => ?_) (fun hc1 => ?_)
  · -- T
    refine VC.rs ?_
    refine VO.as ?_
    refine VO.keep [0] [(0, wm W)] (by kernel_rfl) ?_
    refine VO.k4 0 1 4 10 ?_
    refine VC.ret ?_
    refine outR ?_
    refine ⟨_, _, res_run (rs := [.tmp 4]) rfl (.tmp rfl .nil), fun W_ hI => out_of (l := []) hI [] rfl rfl (mle_refl _) (fun hS_ => ?_)⟩
    dsimp only [packV]
    all_goals (first | rfl | (simp [len_ne hc1]))
  · -- F
    refine VC.skip ?_
    refine outN ?_
    refine VC.seq ?_
    refine VC.rs ?_
    refine VO.as ?_
    refine VO.keep [0] [(0, wm W)] (by kernel_rfl) ?_
    refine VO.k5 0 1 4 5 10 ?_
    refine VC.block ?_
    refine VC.loop (G := Nat) (fun k => [(5, Value.int .i64 (((k : Nat) : Int))), (0, Value.slice A0 (d0.length) (c0)), (1, Value.slice A1 (d1.length) (c1)), (10, Value.bool (decide (¬ ((d0.length : Nat) : Int) = ((d1.length : Nat) : Int))))]) (fun k => [(0, wm W)]) (fun k => (k ≤ d0.length) ∧ (d0.take k = d1.take k)) (fun k => d0.length - k) 0 (⟨by omega, by rfl⟩) ⟨⟨rfl, rfl, rfl, rfl, trivial⟩, fun _ h => h.sub [0]⟩ ?_
    rintro k ⟨hk, ht⟩
    refine VC.seq ?_
    refine VC.rs ?_
    refine VO.mv ?_
    refine VO.mv ?_
    refine VO.y rfl (.lenS rfl tsl41) ?_
    refine VO.y rfl (.lss rfl rfl) ?_
    refine VO.k5 0 1 5 10 14 ?_
    refine VC.cond rfl (fun hc2 => ?_) (fun hc2 => ?_)
    · -- FT
      refine VC.skip ?_
      refine outN ?_
      refine VC.seq ?_
      refine VC.block ?_
      refine VC.seq ?_
      refine VC.regD _ 35 [(0, true), (1, true), (2, true), (3, true), (4, true), (5, true), (6, true), (7, true), (8, true), (9, true), (10, true), (11, true), (12, true), (13, true), (14, true), (15, true), (16, true), (17, true), (18, true), (19, true), (20, true), (21, true), (22, true), (23, true), (24, true), (25, true), (26, true), (27, true), (28, true), (29, true), (30, true), (31, true), (32, true), (33, true), (34, true)] follows (by kernel_rfl) (fun _ h => h.sub [0]) ?_
      refine VD.y rfl rfl (.inl rfl) (.mv rfl) ?_
      refine VD.y rfl rfl (.inl rfl) (.mv rfl) ?_
      obtain ⟨x3, hx3⟩ : ∃ z_, (d0)[k]? = some z_ := ⟨_, List.getElem?_eq_getElem bd⟩
      obtain ⟨gg3, oo3, ec3, ea3, hce3, hre3⟩ := h0.elem hx3
      cases ea3
      obtain ⟨q3_A2, q3_c2, rfl, q3_0, q3_1, q3_2⟩ := open_Section (x0 := x3.1) (x1 := x3.2.1) (x2 := x3.2.2) hre3
      simp only [inK] at q3_0
      simp only [inK] at q3_1
      have q3_r2 := Rd.room q3_2
      refine VD.y rfl rfl (.inl rfl) (.ixI k rfl rfl tsl41 rfl bd) ?_
      refine VD.y rfl rfl (.inl rfl) (.fa rfl tst24 rfl) ?_
      refine VD.y rfl rfl (.inl rfl) (.ld1 0 rfl tk3 rfl (hce3.at1 (j := 0) rfl)) ?_
      refine VD.y rfl rfl (.inl rfl) (.mv rfl) ?_
      refine VD.y rfl rfl (.inl rfl) (.mv rfl) ?_
      obtain ⟨x4, hx4⟩ : ∃ z_, (d1)[k]? = some z_ := ⟨_, List.getElem?_eq_getElem bd⟩
      obtain ⟨gg4, oo4, ec4, ea4, hce4, hre4⟩ := h1.elem hx4
      cases ea4
      obtain ⟨q4_A2, q4_c2, rfl, q4_0, q4_1, q4_2⟩ := open_Section (x0 := x4.1) (x1 := x4.2.1) (x2 := x4.2.2) hre4
      simp only [inK] at q4_0
      simp only [inK] at q4_1
      have q4_r2 := Rd.room q4_2
      refine VD.y rfl rfl (.inl rfl) (.ixI k rfl rfl tsl41 rfl bd) ?_
      refine VD.y rfl rfl (.inl rfl) (.fa rfl tst24 rfl) ?_
      refine VD.y rfl rfl (.inl rfl) (.ld1 0 rfl tk3 rfl (hce4.at1 (j := 0) rfl)) ?_
      refine VD.y rfl rfl (.inl rfl) (.neq rfl rfl) ?_
      refine VD.y rfl rfl (.inl rfl) (.mv rfl) ?_
      refine VD.dec (s := 28) rfl (fun hc5 => ?_) (fun hc5 => ?_)
      · -- FTT
        refine VD.gn rfl rfl (.inl ⟨_, rfl, rfl⟩) ?_
        refine VD.gn rfl rfl (.inl ⟨_, rfl, rfl⟩) ?_
        refine VD.gn rfl rfl (.inl ⟨_, rfl, rfl⟩) ?_
        refine VD.gn rfl rfl (.inl ⟨_, rfl, rfl⟩) ?_
        refine VD.gn rfl rfl (.inl ⟨_, rfl, rfl⟩) ?_
        refine VD.gn rfl rfl (.inl ⟨_, rfl, rfl⟩) ?_
        refine VD.gn rfl rfl (.inl ⟨_, rfl, rfl⟩) ?_
        refine VD.gn rfl rfl (.inl ⟨_, rfl, rfl⟩) ?_
        refine VD.gn rfl rfl (.inl ⟨_, rfl, rfl⟩) ?_
        refine VD.gn rfl rfl (.inl ⟨_, rfl, rfl⟩) ?_
        refine VD.gn rfl rfl (.inl ⟨_, rfl, rfl⟩) ?_
        refine VD.y rfl rfl (.inl rfl) (.pT rfl rfl) ?_
        refine VD.y rfl rfl (.inl rfl) (.mv rfl) ?_
        refine VD.gn rfl rfl (.inl ⟨_, rfl, rfl⟩) ?_
        refine VD.gn rfl rfl (.inl ⟨_, rfl, rfl⟩) ?_
        refine VD.gn rfl rfl (.inl ⟨_, rfl, rfl⟩) ?_
        refine VD.gn rfl rfl (.inl ⟨_, rfl, rfl⟩) ?_
        refine VD.gn rfl rfl (.inl ⟨_, rfl, rfl⟩) ?_
        refine VD.gn rfl rfl (.inl ⟨_, rfl, rfl⟩) ?_
        refine VD.gn rfl rfl (.inl ⟨_, rfl, rfl⟩) ?_
        refine VD.gn rfl rfl (.inl ⟨_, rfl, rfl⟩) ?_
        refine VD.gn rfl rfl (.inl ⟨_, rfl, rfl⟩) ?_
        refine VD.gn rfl rfl (.inl ⟨_, rfl, rfl⟩) ?_
        refine VD.nil rfl ?_ rfl
        refine VO.gN ?_
        refine VO.gN ?_
        refine VO.y rfl (.pT rfl rfl) ?_
        refine VO.k6 0 1 5 10 14 54 ?_
        refine outN ?_
        refine VC.condT rfl ?_
        refine VC.rs ?_
        refine VO.as ?_
        refine VO.keep [0] [(0, wm W)] (by kernel_rfl) ?_
        refine VO.k7 0 1 4 5 10 14 54 ?_
        refine VC.ret ?_
        refine outBR ?_
        refine outR ?_
        refine outR ?_
        refine outBR ?_
        refine outR ?_
        refine ⟨_, _, res_run (rs := [.tmp 4]) rfl (.tmp rfl .nil), fun W_ hI => out_of (l := []) hI [] rfl rfl (mle_refl _) (fun hS_ => ?_)⟩
        dsimp only [packV]
        all_goals (first | rfl | (exact congrArg Value.bool (decide_eq_false (get_ne ‹d0[k]? = some _› ‹d1[k]? = some _› (fun e => by subst e; first | exact absurd rfl ‹¬ _ = _› | omega))).symm))
      · -- FTF
        refine VD.y rfl rfl (.inr ⟨_, _, rfl, _, rfl, rfl⟩) (.mv rfl) ?_
        refine VD.y rfl rfl (.inr ⟨_, _, rfl, _, rfl, rfl⟩) (.mv rfl) ?_
        refine VD.y rfl rfl (.inr ⟨_, _, rfl, _, rfl, rfl⟩) (.ixI k rfl rfl tsl41 rfl bd) ?_
        refine VD.y rfl rfl (.inr ⟨_, _, rfl, _, rfl, rfl⟩) (.fa rfl tst24 rfl) ?_
        refine VD.y rfl rfl (.inr ⟨_, _, rfl, _, rfl, rfl⟩) (.ld1 0 rfl tk3 rfl (hce3.at1 (j := 1) rfl)) ?_
        refine VD.y rfl rfl (.inr ⟨_, _, rfl, _, rfl, rfl⟩) (.mv rfl) ?_
        refine VD.y rfl rfl (.inr ⟨_, _, rfl, _, rfl, rfl⟩) (.mv rfl) ?_
        refine VD.y rfl rfl (.inr ⟨_, _, rfl, _, rfl, rfl⟩) (.ixI k rfl rfl tsl41 rfl bd) ?_
        refine VD.y rfl rfl (.inr ⟨_, _, rfl, _, rfl, rfl⟩) (.fa rfl tst24 rfl) ?_
        refine VD.y rfl rfl (.inr ⟨_, _, rfl, _, rfl, rfl⟩) (.ld1 0 rfl tk3 rfl (hce4.at1 (j := 1) rfl)) ?_
        refine VD.y rfl rfl (.inr ⟨_, _, rfl, _, rfl, rfl⟩) (.neq rfl rfl) ?_
        refine VD.y rfl rfl (.inl rfl) (.pF rfl rfl) ?_
        refine VD.y rfl rfl (.inl rfl) (.mv rfl) ?_
        refine VD.dec (s := 41) rfl (fun hc8 => ?_) (fun hc8 => ?_)
        · -- FTFT
          refine VD.gn rfl rfl (.inl ⟨_, rfl, rfl⟩) ?_
          refine VD.gn rfl rfl (.inl ⟨_, rfl, rfl⟩) ?_
          refine VD.gn rfl rfl (.inl ⟨_, rfl, rfl⟩) ?_
          refine VD.gn rfl rfl (.inl ⟨_, rfl, rfl⟩) ?_
          refine VD.gn rfl rfl (.inl ⟨_, rfl, rfl⟩) ?_
          refine VD.gn rfl rfl (.inl ⟨_, rfl, rfl⟩) ?_
          refine VD.gn rfl rfl (.inl ⟨_, rfl, rfl⟩) ?_
          refine VD.gn rfl rfl (.inl ⟨_, rfl, rfl⟩) ?_
          refine VD.gn rfl rfl (.inl ⟨_, rfl, rfl⟩) ?_
          refine VD.gn rfl rfl (.inl ⟨_, rfl, rfl⟩) ?_
          refine VD.nil rfl ?_ rfl
          refine VO.gN ?_
          refine VO.gN ?_
          refine VO.y rfl (.pT rfl rfl) ?_
          refine VO.k6 0 1 5 10 14 54 ?_
          refine outN ?_
          refine VC.condT rfl ?_
          refine VC.rs ?_
          refine VO.as ?_
          refine VO.keep [0] [(0, wm W)] (by kernel_rfl) ?_
          refine VO.k7 0 1 4 5 10 14 54 ?_
          refine VC.ret ?_
          refine outBR ?_
          refine outR ?_
          refine outR ?_
          refine outBR ?_
          refine outR ?_
          refine ⟨_, _, res_run (rs := [.tmp 4]) rfl (.tmp rfl .nil), fun W_ hI => out_of (l := []) hI [] rfl rfl (mle_refl _) (fun hS_ => ?_)⟩
          dsimp only [packV]
          all_goals (first | rfl | (exact congrArg Value.bool (decide_eq_false (get_ne ‹d0[k]? = some _› ‹d1[k]? = some _› (fun e => by subst e; first | exact absurd rfl ‹¬ _ = _› | omega))).symm))
        · -- FTFF
          refine VD.y rfl rfl (.inr ⟨_, _, rfl, _, rfl, rfl⟩) (.mv rfl) ?_
          refine VD.y rfl rfl (.inr ⟨_, _, rfl, _, rfl, rfl⟩) (.mv rfl) ?_
          refine VD.y rfl rfl (.inr ⟨_, _, rfl, _, rfl, rfl⟩) (.ixI k rfl rfl tsl41 rfl bd) ?_
          refine VD.y rfl rfl (.inr ⟨_, _, rfl, _, rfl, rfl⟩) (.fa rfl tst24 rfl) ?_
          refine VD.y rfl rfl (.inr ⟨_, _, rfl, _, rfl, rfl⟩) (.ld1 0 rfl tk22 rfl (hce3.at1 (j := 2) rfl)) ?_
          refine VD.y rfl rfl (.inr ⟨_, _, rfl, _, rfl, rfl⟩) (.mv rfl) ?_
          refine VD.y rfl rfl (.inr ⟨_, _, rfl, _, rfl, rfl⟩) (.mv rfl) ?_
          refine VD.y rfl rfl (.inr ⟨_, _, rfl, _, rfl, rfl⟩) (.ixI k rfl rfl tsl41 rfl bd) ?_
          refine VD.y rfl rfl (.inr ⟨_, _, rfl, _, rfl, rfl⟩) (.fa rfl tst24 rfl) ?_
          refine VD.y rfl rfl (.inr ⟨_, _, rfl, _, rfl, rfl⟩) (.ld1 0 rfl tk22 rfl (hce4.at1 (j := 2) rfl)) ?_
          refine VD.nil rfl ?_ rfl
          refine VO.gcallN 111 rfl ⟨_, rfl, rfl⟩ fnOk63 rfl (fun W hW => SameCommits_ok W (Rd.mono q3_2 (hW.at (i := 0) rfl)) (Rd.mono q4_2 (hW.at (i := 0) rfl))) (fun v11 m11 hv11 => ?_)
          subst hv11
          refine VO.gy rfl ⟨_, rfl, rfl⟩ (.notD rfl) ?_
          refine VO.y rfl (.pF rfl rfl) ?_
          refine VO.k6 0 1 5 10 14 54 ?_
          refine outN ?_
          refine VC.cond rfl (fun hc12 => ?_) (fun hc12 => ?_)
          · -- FTFFT
            refine VC.rs ?_
            refine VO.as ?_
            refine VO.keep [0] [(0, wm W)] (by kernel_rfl) ?_
            refine VO.k7 0 1 4 5 10 14 54 ?_
            refine VC.ret ?_
            refine outBR ?_
            refine outR ?_
            refine outR ?_
            refine outBR ?_
            refine outR ?_
            refine ⟨_, _, res_run (rs := [.tmp 4]) rfl (.tmp rfl .nil), fun W_ hI => out_of (l := []) hI [] rfl rfl (mle_refl _) (fun hS_ => ?_)⟩
            dsimp only [packV]
            all_goals (first | rfl | (exact congrArg Value.bool (decide_eq_false (get_ne ‹d0[k]? = some _› ‹d1[k]? = some _› (fun e => by subst e; first | exact absurd rfl ‹¬ _ = _› | omega))).symm))
          · -- FTFFF
            refine VC.skip ?_
            refine outBN ?_
            refine outN ?_
            refine VC.reg ?_
            refine VO.mv ?_
            refine VO.y rfl (.add (c := ((k + 1 : Nat) : Int)) rfl rfl (by omega) ⟨bd, bd⟩) ?_
            refine VO.as ?_
            refine VO.keep [0] [(0, wm W)] (by kernel_rfl) ?_
            refine VO.k6 0 1 5 10 14 54 ?_
            exact outN ⟨k + 1, ⟨by omega, by exact take_next ht ‹d0[k]? = some _› ‹d1[k]? = some _› (Prod.ext (by omega) (Prod.ext (by omega) (Decidable.not_not.1 (by assumption))))⟩, bd, ⟨⟨rfl, rfl, rfl, rfl, trivial⟩, fun _ h => Inv.sub h [0]⟩⟩
    · -- FF
      refine VC.exit ?_
      refine outE ?_
      refine outE ?_
      refine outBB ?_
      refine outN ?_
      refine VC.rs ?_
      refine VO.as ?_
      refine VO.k6 0 1 4 5 10 14 ?_
      refine VC.ret ?_
      refine ⟨_, _, res_run (rs := [.tmp 4]) rfl (.tmp rfl .nil), fun W_ hI => out_of (l := []) hI [] rfl rfl (mle_refl _) (fun hS_ => ?_)⟩
      dsimp only [packV]
      all_goals (first | rfl | (simp [take_all ht (by omega) (by omega)]))
theorem oHas_ok (W : World) {v0 : Value} {d0 : List UInt8} (h0 : Rd (.sl .byte) (wm W) [v0] d0) (d1 : Int) (h1 : inK .i64 d1) (d2 : Int) (h2 : inK .i64 d2) (e0 : d0.length ≤ 1000000000000) : CallR Try.prog 12 [v0, .int .i64 d1, .int .i64 d2] W (mnil) (fun v m' => v = .bool (hasS (scanF d0).1 d1 d2)) := by
  obtain ⟨A0, c0, rfl, l0, k0⟩ := h0.slice
  simp only [maxLen] at k0
  have h1' := h1; simp only [inK] at h1'
  have h2' := h2; simp only [inK] at h2'
  refine CallR.ofA (n := 43) Try.func12 rfl rfl rfl ?_
  refine VC.rs ?_
  refine VO.as ?_
  refine VO.k4 0 1 2 6 ?_
  refine VC.rs ?_
  refine VO.mv ?_
  refine VO.callN 101 rfl fnOk18 rfl (fun W hW => oScan_ok W (Rd.mono h0 (hW.at (i := 0) rfl)) bd) (fun v1 m1 hv1 => ?_)
  obtain ⟨s1_0, rfl, f1_0⟩ := hv1
  have hfa2 := scanF_bounds d0
  obtain ⟨A1_0, c1_0, eq1_0, l1_0, k1_0⟩ := f1_0.slice
  subst eq1_0
  simp only [maxLen] at k1_0
  refine VO.mv ?_
  refine VO.y rfl (.ext rfl rfl) ?_
  refine VO.y rfl (.ext rfl rfl) ?_
  refine VO.as ?_
  refine VO.as ?_
  refine VO.k5 0 1 2 6 7 ?_
  refine VC.seq ?_
  refine VC.rs ?_
  refine VO.mv ?_
  refine VO.y rfl (.lenS rfl tsl41) ?_
  refine VO.mv ?_
  refine VO.keep [101, 0] [(101, m1), (0, wm W)] (by kernel_rfl) ?_
  refine VO.k8 0 1 2 6 7 18 19 20 ?_
  refine VC.block ?_
  refine VC.loop (G := Nat) (fun k => [(20, Value.int .i64 (((k : Nat) : Int))), (0, Value.slice A0 (d0.length) (c0)), (1, Value.int .i64 (d1)), (2, Value.int .i64 (d2)), (7, Value.slice A1_0 (((scanF d0).1).length) (c1_0)), (18, Value.slice A1_0 (((scanF d0).1).length) (c1_0)), (19, Value.int .i64 (((((scanF d0).1).length : Nat) : Int)))]) (fun k => [(101, m1), (0, wm W)]) (fun k => (k ≤ (scanF d0).1.length) ∧ (((scanF d0).1.take k).any (fun s => s.2.2.any fun c => decide (c.1 = d1 ∧ c.2.1 = d2)) = false)) (fun k => (scanF d0).1.length - k) 0 (⟨by first | omega | (dsimp only; omega), by rfl⟩) ⟨⟨rfl, rfl, rfl, rfl, rfl, rfl, rfl, trivial⟩, fun _ h => h.sub [101, 0]⟩ ?_
  rintro k ⟨hk, ha⟩
  refine VC.rs ?_
  refine VO.y rfl (.lss rfl rfl) ?_
  refine VO.k8 0 1 2 7 18 19 20 21 ?_
  refine VC.seq ?_
  refine VC.cond rfl (fun hc3 => ?_) (fun hc3 => ?_)
  · -- T
    refine VC.skip ?_
    refine outN ?_
    refine VC.seq ?_
    refine VC.block ?_
    refine VC.rs ?_
    obtain ⟨x4, hx4⟩ : ∃ z_, ((scanF d0).1)[k]? = some z_ := ⟨_, List.getElem?_eq_getElem bd⟩
    obtain ⟨gg4, oo4, ec4, ea4, hce4, hre4⟩ := (Ow.rd f1_0 (mle_refl _)).elem hx4
    cases ea4
    obtain ⟨q4_A2, q4_c2, rfl, q4_0, q4_1, q4_2⟩ := open_Section (x0 := x4.1) (x1 := x4.2.1) (x2 := x4.2.2) hre4
    simp only [inK] at q4_0
    simp only [inK] at q4_1
    have q4_r2 := Rd.room q4_2
    refine VO.y rfl (.ixI k rfl rfl tsl41 rfl bd) ?_
    refine VO.y rfl (.ldA 101 rfl tk24 rfl hce4) ?_
    refine VO.alloc 106 rfl tz24 (fun g5 => ?_)
    refine VO.store (k := 3) (c' := [Value.int .i64 (x4.1), Value.int .i64 (x4.2.1), Value.slice q4_A2 (x4.2.2.length) (q4_c2)]) 106 rfl rfl (.inl tk24) rfl rfl rfl rfl rfl ?_
    refine VO.k9 0 1 2 7 10 18 19 20 21 ?_
    refine VC.rs ?_
    refine VO.y rfl (.fa rfl tst24 rfl) ?_
    refine VO.y rfl (.ld1 106 rfl tk22 rfl (cellsAt_one rfl rfl)) ?_
    refine VO.y rfl (.lenS rfl tsl22) ?_
    refine VO.mv ?_
    refine VO.keep [106, 101, 0] [(106, mone g5 (.cells [Value.int .i64 (x4.1), Value.int .i64 (x4.2.1), Value.slice q4_A2 (x4.2.2.length) (q4_c2)].toArray 24 (0, 0))), (101, m1), (0, wm W)] (by kernel_rfl) ?_
    refine VO.k12 0 1 2 7 10 18 19 20 21 25 26 27 ?_
    refine VC.block ?_
    refine VC.loop (G := Nat) (fun j => [(27, Value.int .i64 (((j : Nat) : Int))), (0, Value.slice A0 (d0.length) (c0)), (1, Value.int .i64 (d1)), (2, Value.int .i64 (d2)), (7, Value.slice (some ⟨gg4, oo4, none⟩) (((scanF d0).1).length) (c1_0)), (10, Value.pointer (some ⟨g5, 0, none⟩)), (18, Value.slice (some ⟨gg4, oo4, none⟩) (((scanF d0).1).length) (c1_0)), (19, Value.int .i64 (((((scanF d0).1).length : Nat) : Int))), (20, Value.int .i64 (((k : Nat) : Int))), (21, Value.bool (decide (((k : Nat) : Int) < ((((scanF d0).1).length : Nat) : Int)))), (25, Value.slice q4_A2 (x4.2.2.length) (q4_c2)), (26, Value.int .i64 (((x4.2.2.length : Nat) : Int)))]) (fun j => [(106, mone g5 (.cells [Value.int .i64 (x4.1), Value.int .i64 (x4.2.1), Value.slice q4_A2 (x4.2.2.length) (q4_c2)].toArray 24 (0, 0))), (101, m1), (0, wm W)]) (fun j => (j ≤ x4.2.2.length) ∧ ((x4.2.2.take j).any (fun c => decide (c.1 = d1 ∧ c.2.1 = d2)) = false)) (fun j => x4.2.2.length - j) 0 (⟨by omega, by rfl⟩) ⟨⟨rfl, rfl, rfl, rfl, rfl, rfl, rfl, rfl, rfl, rfl, rfl, rfl, trivial⟩, fun _ h => h.sub [106, 101, 0]⟩ ?_
    rintro j ⟨hj, hb⟩
    refine VC.rs ?_
    refine VO.y rfl (.lss rfl rfl) ?_
    refine VO.k13 0 1 2 7 10 18 19 20 21 25 26 27 28 ?_
    refine VC.seq ?_
    refine VC.cond rfl (fun hc7 => ?_) (fun hc7 => ?_)
    · -- TT
      refine VC.skip ?_
      refine outN ?_
      refine VC.seq ?_
      refine VC.block ?_
      refine VC.rs ?_
      obtain ⟨x8, hx8⟩ : ∃ z_, (x4.2.2)[j]? = some z_ := ⟨_, List.getElem?_eq_getElem bd⟩
      obtain ⟨gg8, oo8, ec8, ea8, hce8, hre8⟩ := q4_2.elem hx8
      cases ea8
      obtain ⟨q8_A2, q8_c2, rfl, q8_0, q8_1, q8_2⟩ := open_Commit (x0 := x8.1) (x1 := x8.2.1) (x2 := x8.2.2) hre8
      simp only [inK] at q8_0
      simp only [inK] at q8_1
      have q8_r2 := Rd.room q8_2
      refine VO.y rfl (.ixI j rfl rfl tsl22 rfl bd) ?_
      refine VO.y rfl (.ldA 101 rfl tk32 rfl hce8) ?_
      refine VO.alloc 110 rfl tz32 (fun g9 => ?_)
      refine VO.store (k := 3) (c' := [Value.int .i64 (x8.1), Value.int .i64 (x8.2.1), Value.slice q8_A2 (x8.2.2.length) (q8_c2)]) 110 rfl rfl (.inl tk32) rfl rfl rfl rfl rfl ?_
      refine VO.k14 0 1 2 7 10 12 18 19 20 21 25 26 27 28 ?_
      refine VC.rs ?_
      refine VO.y rfl (.fa rfl tst32 rfl) ?_
      refine VO.y rfl (.ld1 110 rfl tk3 rfl (cellsAt_one rfl rfl)) ?_
      refine VO.mv ?_
      refine VO.y rfl (.eql rfl rfl) ?_
      refine VO.mv ?_
      refine VO.dec (t := 35) rfl (fun hc11 => ?_) (fun hc11 => ?_)
      · -- TTT
        refine VO.gy rfl ⟨_, rfl, rfl⟩ (.fa rfl tst32 rfl) ?_
        refine VO.gy rfl ⟨_, rfl, rfl⟩ (.ld1 110 rfl tk3 rfl (cellsAt_one rfl rfl)) ?_
        refine VO.gy rfl ⟨_, rfl, rfl⟩ (.mv rfl) ?_
        refine VO.gy rfl ⟨_, rfl, rfl⟩ (.eql rfl rfl) ?_
        refine VO.y rfl (.pT rfl rfl) ?_
        refine VO.keep [110, 106, 101, 0] [(110, mone g9 (.cells [Value.int .i64 (x8.1), Value.int .i64 (x8.2.1), Value.slice q8_A2 (x8.2.2.length) (q8_c2)].toArray 32 (0, 0))), (106, mone g5 (.cells [Value.int .i64 (x4.1), Value.int .i64 (x4.2.1), Value.slice (some ⟨gg8, oo8, none⟩) (x4.2.2.length) (q4_c2)].toArray 24 (0, 0))), (101, m1), (0, wm W)] (by kernel_rfl) ?_
        refine VO.k15 0 1 2 7 10 12 18 19 20 21 25 26 27 28 40 ?_
        refine VC.cond rfl (fun hc12 => ?_) (fun hc12 => ?_)
        · -- TTTT
          refine VC.rs ?_
          refine VO.as ?_
          refine VO.k16 0 1 2 6 7 10 12 18 19 20 21 25 26 27 28 40 ?_
          refine VC.ret ?_
          refine outBR ?_
          refine outR ?_
          refine outR ?_
          refine outBR ?_
          refine outBR ?_
          refine outR ?_
          refine outR ?_
          refine outBR ?_
          refine outR ?_
          refine ⟨_, _, res_run (rs := [.tmp 6]) rfl (.tmp rfl .nil), fun W_ hI => out_of (l := []) hI [] rfl rfl (mle_refl _) (fun hS_ => ?_)⟩
          dsimp only [packV]
          all_goals (first | rfl | (first | exact congrArg Value.bool (has_end ha (by omega)).symm | exact congrArg Value.bool (has_yes ‹(scanF d0).1[k]? = some _› ‹_[j]? = some _› (by omega) (by omega)).symm))
        · -- TTTF
          refine VC.skip ?_
          refine outBN ?_
          refine outN ?_
          refine VC.reg ?_
          refine VO.y rfl (.add (c := ((j + 1 : Nat) : Int)) rfl rfl (by omega) ⟨bd, bd⟩) ?_
          refine VO.mv ?_
          refine VO.k15 0 1 2 7 10 12 18 19 20 21 25 26 27 28 40 ?_
          exact outN ⟨j + 1, ⟨by omega, by exact any_next hb ‹_[j]? = some _› (decide_eq_false (by omega))⟩, bd, ⟨⟨rfl, rfl, rfl, rfl, rfl, rfl, rfl, rfl, rfl, rfl, rfl, rfl, trivial⟩, fun _ h => Inv.sub h [106, 101, 0]⟩⟩
      · -- TTF
        refine VO.gN ?_
        refine VO.gN ?_
        refine VO.gN ?_
        refine VO.gN ?_
        refine VO.y rfl (.pF rfl rfl) ?_
        refine VO.keep [110, 106, 101, 0] [(110, mone g9 (.cells [Value.int .i64 (x8.1), Value.int .i64 (x8.2.1), Value.slice q8_A2 (x8.2.2.length) (q8_c2)].toArray 32 (0, 0))), (106, mone g5 (.cells [Value.int .i64 (x4.1), Value.int .i64 (x4.2.1), Value.slice (some ⟨gg8, oo8, none⟩) (x4.2.2.length) (q4_c2)].toArray 24 (0, 0))), (101, m1), (0, wm W)] (by kernel_rfl) ?_
        refine VO.k15 0 1 2 7 10 12 18 19 20 21 25 26 27 28 40 ?_
        refine VC.condF rfl ?_
        refine VC.skip ?_
        refine outBN ?_
        refine outN ?_
        refine VC.reg ?_
        refine VO.y rfl (.add (c := ((j + 1 : Nat) : Int)) rfl rfl (by omega) ⟨bd, bd⟩) ?_
        refine VO.mv ?_
        refine VO.k15 0 1 2 7 10 12 18 19 20 21 25 26 27 28 40 ?_
        exact outN ⟨j + 1, ⟨by omega, by exact any_next hb ‹_[j]? = some _› (decide_eq_false (by omega))⟩, bd, ⟨⟨rfl, rfl, rfl, rfl, rfl, rfl, rfl, rfl, rfl, rfl, rfl, rfl, trivial⟩, fun _ h => Inv.sub h [106, 101, 0]⟩⟩
    · -- TF
      refine VC.exit ?_
      refine outE ?_
      refine outE ?_
      refine outBB ?_
      refine outBN ?_
      refine outN ?_
      refine VC.reg ?_
      refine VO.y rfl (.add (c := ((k + 1 : Nat) : Int)) rfl rfl (by omega) ⟨bd, bd⟩) ?_
      refine VO.mv ?_
      refine VO.k13 0 1 2 7 10 18 19 20 21 25 26 27 28 ?_
      exact outN ⟨k + 1, ⟨by omega, by exact any_next ha ‹(scanF d0).1[k]? = some _› (any_end hb (by omega))⟩, bd, ⟨⟨rfl, rfl, rfl, rfl, rfl, rfl, rfl, trivial⟩, fun _ h => Inv.sub h [101, 0]⟩⟩
  · -- F
    refine VC.exit ?_
    refine outE ?_
    refine outE ?_
    refine outBB ?_
    refine outN ?_
    refine VC.rs ?_
    refine VO.as ?_
    refine VO.k9 0 1 2 6 7 18 19 20 21 ?_
    refine VC.ret ?_
    refine ⟨_, _, res_run (rs := [.tmp 6]) rfl (.tmp rfl .nil), fun W_ hI => out_of (l := []) hI [] rfl rfl (mle_refl _) (fun hS_ => ?_)⟩
    dsimp only [packV]
    all_goals (first | rfl | (first | exact congrArg Value.bool (has_end ha (by omega)).symm | exact congrArg Value.bool (has_yes ‹(scanF d0).1[k]? = some _› ‹_[j]? = some _› (by omega) (by omega)).symm))
end
section
set_option linter.unusedVariables false
def exS : DSection := (2, 1, [ofC 1 2])
def exSB : Bytes := [3, 2, 1, 1, 9, 1, 2, 1, 1, 0, 1, 97, 1, 49]
theorem exS_enc : sectEnc exS = exSB := by
  simp [sectEnc, sectHead, fEnc, cFrames, cFrame, cEnc, exS, ofC, exSB, batchEnc, encOps, encOp, shared, venc_last]
theorem ex19E : sectEncode exS = (exSB, 0) := by rw [sectEncode_good (by decide), exS_enc]
theorem ex19S (r : Bytes) (h : (secRead r).2.2 = false) : scanF (exSB ++ r) = ([exS], 14) := by
  have h1 := scan_whole (l := [exS]) (r := r) ⟨by decide, by decide, trivial⟩ h
  have e : sectEncs [exS] = exSB := by simp [sectEncs, exS_enc]
  rw [e] at h1
  rw [h1]; rfl
theorem ex19D : scanF (exSB ++ [3, 3, 1, 1]) = ([exS], 14) := ex19S _ (by decide)
theorem ex19F : scanF exSB = ([exS], 14) := by
  have := ex19S [] sec_nil
  rwa [List.append_nil] at this
theorem ex19H : hasS (scanF exSB).1 1 2 = true ∧ hasS (scanF exSB).1 2 2 = false := by rw [ex19F]; decide
end
section
set_option linter.unusedVariables false
set_option linter.unusedSimpArgs false
set_option maxRecDepth 4000
theorem fnOk10 : fnOk Try.prog 10 = true := by kernel_rfl
theorem fnOk11 : fnOk Try.prog 11 = true := by kernel_rfl
theorem fnOk12 : fnOk Try.prog 12 = true := by kernel_rfl
theorem fnOk22 : fnOk Try.prog 22 = true := by kernel_rfl
theorem fnOk8 : fnOk Try.prog 8 = true := by kernel_rfl
theorem put19_ok (W : World) (d0 : Int) (h0 : inK .i64 d0) (d1 : Int) (h1 : inK .i64 d1) : CallR Try.prog 10 [.int .i64 d0, .int .i64 d1] W (mnil) (fun v m' => ∃ (s0 : List Value), v = .agg s0.toArray ∧ Ow TCommit m' s0 (ofC d0 d1)) := by
  have h0' := h0; simp only [inK] at h0'
  have h1' := h1; simp only [inK] at h1'
  refine CallR.ofA (n := 10) Try.func10 rfl rfl rfl ?_
  refine VC.rs ?_
  refine VO.alloc 102 rfl tz32 (fun g1 => ?_)
  refine VO.k3 0 1 4 ?_
  refine VC.rs ?_
  refine VO.mv ?_
  refine VO.mv ?_
  refine VO.y rfl (.bst (cs := [Value.bool true, str ([97]), str ([49])]) rfl tst78 tz78 rfl) ?_
  refine VO.bsl (cs := [Value.bool true, str ([97]), str ([49])]) 104 rfl rfl tsl30 tz78 rfl rfl (fun g3 => ?_)
  refine VO.y rfl (.bst (cs := [Value.int .i64 (d0), Value.int .i64 (d1), Value.slice (some ⟨g3, 0, none⟩) (1) (1)]) rfl tst32 tz32 rfl) ?_
  refine VO.store (k := 3) (c' := [Value.int .i64 (d0), Value.int .i64 (d1), Value.slice (some ⟨g3, 0, none⟩) (1) (1)]) 102 rfl rfl (.inl tk32) rfl rfl rfl rfl rfl ?_
  refine VO.k3 0 1 4 ?_
  refine VC.ret ?_
  have ho5 : OwnL TOp (mone g3 (.cells [Value.bool true, str ([97]), str ([49])].toArray 78 (0, 0))) mnil (Value.slice (some ⟨g3, 0, none⟩) (1) (1)) [(true, [97], [49])] := OwnL.lit 1 (All2c.cons (c1 := [Value.bool true, str ([97]), str ([49])]) (mk_Op (m := _) true ([97]) ([49]) bdm bdm) All2c.nil) rfl rfl
  refine ⟨_, _, res_run (rs := [.cell 4 32]) rfl (.agg 102 rfl tk32 rfl ⟨_, _, _, mone_self _ _, Nat.le_of_ble_eq_true rfl, rfl⟩ .nil), fun W_ hI => out_of (l := [mone g3 (.cells [Value.bool true, str ([97]), str ([49])].toArray 78 (0, 0))]) hI [104] rfl rfl (mle_refl _) (fun hS_ => ?_)⟩
  dsimp only [packV]
  have he0 : (ofC d0 d1 : Ty.Den TCommit) = (d0, d1, [(true, [97], [49])]) := by first | rfl | (simp [*]; done)
  refine ⟨[Value.int .i64 (d0), Value.int .i64 (d1), Value.slice (some ⟨g3, 0, none⟩) (1) (1)], ?_, ?_⟩
  rotate_left
  · rw [he0]; exact (mkO_Commit d0 d1 ([(true, [97], [49])]) hS_ bdk bdk (OwnL.ow ho5 rfl))
  all_goals (first | rfl | (simp [*]; done))
theorem example19_ok (W : World) : CallR Try.prog 8 [] W (mnil) (fun v m' => ∃ (s0 : List Value), ∃ (s1 : Value), ∃ (p0 : Mem), ∃ (p1 : Mem), v = .tuple #[.agg s0.toArray, s1] ∧ Seps m' [p0, p1] ∧ Ow TSection p0 s0 (exS) ∧ Ow (.sl .byte) p1 [s1] (exSB)) := by
  refine CallR.ofA (n := 6) Try.func8 rfl rfl rfl ?_
  refine VC.rs ?_
  refine VO.alloc 102 rfl tz24 (fun g1 => ?_)
  refine VO.as ?_
  refine VO.k2 0 1 ?_
  refine VC.rs ?_
  refine VO.callN 103 rfl fnOk10 rfl (fun W hW => put19_ok W 1 bdk 2 bdk) (fun v3 m3 hv3 => ?_)
  obtain ⟨s3_0, rfl, f3_0⟩ := hv3
  obtain ⟨q3_0_A2, q3_0_c2, q3_0_n2, rfl, q3_0_S, q3_0_0, q3_0_1, q3_0_2⟩ := openO_Commit (x0 := (ofC 1 2).1) (x1 := (ofC 1 2).2.1) (x2 := (ofC 1 2).2.2) f3_0
  simp only [inK] at q3_0_0
  simp only [inK] at q3_0_1
  have q3_0_r2 := Rd.room (q3_0_2.rd (mle_refl _))
  refine VO.inv _ (fun _ h => h.parts (i := 103) rfl q3_0_S [104]) ?_
  refine VO.bsl (cs := [Value.int .i64 ((ofC 1 2).1), Value.int .i64 ((ofC 1 2).2.1), Value.slice q3_0_A2 (((ofC 1 2).2.2).length) (q3_0_c2)]) 106 rfl rfl tsl22 tz32 rfl rfl (fun g5 => ?_)
  refine VO.gather (l := [mone g5 (.cells [Value.int .i64 ((ofC 1 2).1), Value.int .i64 ((ofC 1 2).2.1), Value.slice q3_0_A2 (((ofC 1 2).2.2).length) (q3_0_c2)].toArray 32 (0, 0)), q3_0_n2]) 108 [106, 104] rfl (fun hg7 => ?_)
  have ho7 : Ow (.sl TCommit) (muns [mone g5 (.cells [Value.int .i64 ((ofC 1 2).1), Value.int .i64 ((ofC 1 2).2.1), Value.slice q3_0_A2 (((ofC 1 2).2.2).length) (q3_0_c2)].toArray 32 (0, 0)), q3_0_n2]) [Value.slice (some ⟨g5, 0, none⟩) (1) (1)] [(ofC 1 2)] := Ow.lit 1 (Seps.grp1 (ls := [[q3_0_n2]]) hg7) (OwAs.cons (m := muns [q3_0_n2]) (c1 := [Value.int .i64 ((ofC 1 2).1), Value.int .i64 ((ofC 1 2).2.1), Value.slice q3_0_A2 (((ofC 1 2).2.2).length) (q3_0_c2)]) (show Ow TCommit _ _ (ofC 1 2) from (mkO_Commit ((ofC 1 2).1) ((ofC 1 2).2.1) ((ofC 1 2).2.2) (Seps.self hg7 (List.Sublist.cons _ (List.Sublist.cons_cons _ List.Sublist.slnil))) bdk bdk (OwnL.ow (Ow.ownl q3_0_2 rfl mnil) rfl))) OwAs.nil) rfl rfl
  refine VO.y rfl (.bst (cs := [Value.int .i64 (2), Value.int .i64 (1), Value.slice (some ⟨g5, 0, none⟩) (1) (1)]) rfl tst24 tz24 rfl) ?_
  refine VO.bsl (cs := [Value.int .u8 (3), Value.int .u8 (2), Value.int .u8 (1), Value.int .u8 (1), Value.int .u8 (9), Value.int .u8 (1), Value.int .u8 (2), Value.int .u8 (1), Value.int .u8 (1), Value.int .u8 (0), Value.int .u8 (1), Value.int .u8 (97), Value.int .u8 (1), Value.int .u8 (49)]) 110 rfl rfl tsl25 tz5 rfl rfl (fun g9 => ?_)
  refine VO.store (k := 3) (c' := [Value.int .i64 (2), Value.int .i64 (1), Value.slice (some ⟨g5, 0, none⟩) (1) (1)]) 102 rfl rfl (.inl tk24) rfl rfl rfl rfl rfl ?_
  refine VO.as ?_
  refine VO.k2 0 1 ?_
  refine VC.ret ?_
  have ho11 : OwnL .byte (mone g9 (.cells [Value.int .u8 (3), Value.int .u8 (2), Value.int .u8 (1), Value.int .u8 (1), Value.int .u8 (9), Value.int .u8 (1), Value.int .u8 (2), Value.int .u8 (1), Value.int .u8 (1), Value.int .u8 (0), Value.int .u8 (1), Value.int .u8 (97), Value.int .u8 (1), Value.int .u8 (49)].toArray 5 (0, 0))) mnil (Value.slice (some ⟨g9, 0, none⟩) (14) (14)) [UInt8.ofNat 3, UInt8.ofNat 2, UInt8.ofNat 1, UInt8.ofNat 1, UInt8.ofNat 9, UInt8.ofNat 1, UInt8.ofNat 2, UInt8.ofNat 1, UInt8.ofNat 1, UInt8.ofNat 0, UInt8.ofNat 1, UInt8.ofNat 97, UInt8.ofNat 1, UInt8.ofNat 49] := OwnL.lit 14 (All2c.cons (c1 := [Value.int .u8 (3)]) (rd_byteN bd) (All2c.cons (c1 := [Value.int .u8 (2)]) (rd_byteN bd) (All2c.cons (c1 := [Value.int .u8 (1)]) (rd_byteN bd) (All2c.cons (c1 := [Value.int .u8 (1)]) (rd_byteN bd) (All2c.cons (c1 := [Value.int .u8 (9)]) (rd_byteN bd) (All2c.cons (c1 := [Value.int .u8 (1)]) (rd_byteN bd) (All2c.cons (c1 := [Value.int .u8 (2)]) (rd_byteN bd) (All2c.cons (c1 := [Value.int .u8 (1)]) (rd_byteN bd) (All2c.cons (c1 := [Value.int .u8 (1)]) (rd_byteN bd) (All2c.cons (c1 := [Value.int .u8 (0)]) (rd_byteN bd) (All2c.cons (c1 := [Value.int .u8 (1)]) (rd_byteN bd) (All2c.cons (c1 := [Value.int .u8 (97)]) (rd_byteN bd) (All2c.cons (c1 := [Value.int .u8 (1)]) (rd_byteN bd) (All2c.cons (c1 := [Value.int .u8 (49)]) (rd_byteN bd) All2c.nil)))))))))))))) rfl rfl
  refine ⟨_, _, res_run (rs := [.cell 0 24, .tmp 1]) rfl (.agg 102 rfl tk24 rfl ⟨_, _, _, mone_self _ _, Nat.le_of_ble_eq_true rfl, rfl⟩ (.tmp rfl .nil)), fun W_ hI => out_of (l := [muns [mone g5 (.cells [Value.int .i64 ((ofC 1 2).1), Value.int .i64 ((ofC 1 2).2.1), Value.slice q3_0_A2 (((ofC 1 2).2.2).length) (q3_0_c2)].toArray 32 (0, 0)), q3_0_n2], mone g9 (.cells [Value.int .u8 (3), Value.int .u8 (2), Value.int .u8 (1), Value.int .u8 (1), Value.int .u8 (9), Value.int .u8 (1), Value.int .u8 (2), Value.int .u8 (1), Value.int .u8 (1), Value.int .u8 (0), Value.int .u8 (1), Value.int .u8 (97), Value.int .u8 (1), Value.int .u8 (49)].toArray 5 (0, 0))]) hI [108, 110] rfl rfl (mle_refl _) (fun hS_ => ?_)⟩
  dsimp only [packV]
  have he0 : (exS : Ty.Den TSection) = (2, 1, [(ofC 1 2)]) := by first | rfl | (simp [*]; done)
  have he1 : (exSB : Ty.Den (.sl .byte)) = [UInt8.ofNat 3, UInt8.ofNat 2, UInt8.ofNat 1, UInt8.ofNat 1, UInt8.ofNat 9, UInt8.ofNat 1, UInt8.ofNat 2, UInt8.ofNat 1, UInt8.ofNat 1, UInt8.ofNat 0, UInt8.ofNat 1, UInt8.ofNat 97, UInt8.ofNat 1, UInt8.ofNat 49] := by first | rfl | (simp [*]; done)
  refine ⟨[Value.int .i64 (2), Value.int .i64 (1), Value.slice (some ⟨g5, 0, none⟩) (1) (1)], Value.slice (some ⟨g9, 0, none⟩) (14) (14), muns [muns [mone g5 (.cells [Value.int .i64 ((ofC 1 2).1), Value.int .i64 ((ofC 1 2).2.1), Value.slice q3_0_A2 (((ofC 1 2).2.2).length) (q3_0_c2)].toArray 32 (0, 0)), q3_0_n2]], muns [mone g9 (.cells [Value.int .u8 (3), Value.int .u8 (2), Value.int .u8 (1), Value.int .u8 (1), Value.int .u8 (9), Value.int .u8 (1), Value.int .u8 (2), Value.int .u8 (1), Value.int .u8 (1), Value.int .u8 (0), Value.int .u8 (1), Value.int .u8 (97), Value.int .u8 (1), Value.int .u8 (49)].toArray 5 (0, 0))], ?_, ?_, ?_, ?_⟩
  rotate_left
  · exact Seps.grp (ls := [[muns [mone g5 (.cells [Value.int .i64 ((ofC 1 2).1), Value.int .i64 ((ofC 1 2).2.1), Value.slice q3_0_A2 (((ofC 1 2).2.2).length) (q3_0_c2)].toArray 32 (0, 0)), q3_0_n2]], [mone g9 (.cells [Value.int .u8 (3), Value.int .u8 (2), Value.int .u8 (1), Value.int .u8 (1), Value.int .u8 (9), Value.int .u8 (1), Value.int .u8 (2), Value.int .u8 (1), Value.int .u8 (1), Value.int .u8 (0), Value.int .u8 (1), Value.int .u8 (97), Value.int .u8 (1), Value.int .u8 (49)].toArray 5 (0, 0))]]) hS_
  · rw [he0]; exact (mkO_Section 2 1 ([(ofC 1 2)]) (Seps.self hS_ (List.Sublist.cons_cons _ (List.Sublist.cons _ List.Sublist.slnil))) bdk bdk ho7)
  · rw [he1]; exact (Ow.up (OwnL.ow ho11 rfl) ((Seps.self hS_ (List.Sublist.cons _ (List.Sublist.cons_cons _ List.Sublist.slnil))).1 _ (.head _)))
  all_goals (first | rfl | (simp [*]; done))
theorem lives19_ok (W : World) : CallR Try.prog 11 [] W (mnil) (fun v m' => v = .bool true) := by
  refine CallR.ofA (n := 41) Try.func11 rfl rfl rfl ?_
  refine VC.rs ?_
  refine VO.as ?_
  refine VO.k1 0 ?_
  refine VC.rs ?_
  refine VO.callN 101 rfl fnOk8 rfl (fun W hW => example19_ok W ) (fun v1 m1 hv1 => ?_)
  obtain ⟨s1_0, s1_1, p1_0, p1_1, rfl, hS1, f1_0, f1_1⟩ := hv1
  refine VO.inv _ (fun _ h => h.parts (i := 101) rfl hS1 [102, 103]) ?_
  obtain ⟨q1_0_A2, q1_0_c2, q1_0_n2, rfl, q1_0_S, q1_0_0, q1_0_1, q1_0_2⟩ := openO_Section (x0 := exS.1) (x1 := exS.2.1) (x2 := exS.2.2) f1_0
  simp only [inK] at q1_0_0
  simp only [inK] at q1_0_1
  have q1_0_r2 := Rd.room (q1_0_2.rd (mle_refl _))
  refine VO.inv _ (fun _ h => h.parts (i := 102) rfl q1_0_S [104]) ?_
  obtain ⟨A1_1, c1_1, eq1_1, l1_1, k1_1⟩ := f1_1.slice
  subst eq1_1
  simp only [maxLen] at k1_1
  refine VO.mv ?_
  refine VO.y rfl (.ext rfl rfl) ?_
  refine VO.y rfl (.ext rfl rfl) ?_
  refine VO.alloc 106 rfl tz24 (fun g5 => ?_)
  refine VO.store (k := 3) (c' := [Value.int .i64 (exS.1), Value.int .i64 (exS.2.1), Value.slice q1_0_A2 (exS.2.2.length) (q1_0_c2)]) 106 rfl rfl (.inl tk24) rfl rfl rfl rfl rfl ?_
  refine VO.as ?_
  refine VO.k3 0 1 2 ?_
  refine VC.rs ?_
  refine VO.y rfl (.ldA 106 rfl tk24 rfl (cellsAt_one rfl rfl)) ?_
  refine VO.callN 107 rfl fnOk16 rfl (fun W hW => sectEncode_ok W (show Rd TSection _ _ exS from (mk_Section (m := wm W) exS.1 exS.2.1 exS.2.2 (by simp only [inK]; (first | omega | (simp only [List.length_append, List.length_nil, List.length_cons, List.length_take, List.length_drop] at *; omega) | (have : exC.length = 6 := rfl; omega) | decide | (have : exSB.length = 14 := rfl; omega))) (by simp only [inK]; (first | omega | (simp only [List.length_append, List.length_nil, List.length_cons, List.length_take, List.length_drop] at *; omega) | (have : exC.length = 6 := rfl; omega) | decide | (have : exSB.length = 14 := rfl; omega))) (Ow.rd q1_0_2 (hW.at (i := 104) rfl))))) (fun v7 m7 hv7 => ?_)
  obtain ⟨s7_0, rfl, f7_0⟩ := hv7
  have hfa8 := sectEncode_len exS
  obtain ⟨A7_0, c7_0, eq7_0, l7_0, k7_0⟩ := f7_0.slice
  subst eq7_0
  simp only [maxLen] at k7_0
  refine VO.mv ?_
  refine VO.y rfl (.ext rfl rfl) ?_
  refine VO.y rfl (.ext rfl rfl) ?_
  refine VO.as ?_
  refine VO.as ?_
  refine VO.keep [107, 106, 104, 103, 0] [(107, m7), (106, mone g5 (.cells [Value.int .i64 (exS.1), Value.int .i64 (exS.2.1), Value.slice q1_0_A2 (exS.2.2.length) (q1_0_c2)].toArray 24 (0, 0))), (104, q1_0_n2), (103, p1_1), (0, wm W)] (by kernel_rfl) ?_
  refine VO.k5 0 1 2 3 4 ?_
  refine VC.rs ?_
  refine VO.mv ?_
  refine VO.bsl (cs := [Value.int .u8 (3), Value.int .u8 (3), Value.int .u8 (1), Value.int .u8 (1)]) 110 rfl rfl tsl25 tz5 rfl rfl (fun g9 => ?_)
  obtain ⟨mo11, cs11, hM11, hA11, hC11⟩ := (Ow.ownl f1_1 rfl mnil)
  refine VO.appK 103 rfl rfl rfl tsl25 tz5 rfl rfl hM11 hA11 (.row 110 _ _ _ 4 4 _ _ Try.underlying25 rfl (cellsAt_one rfl rfl)) (by simp [Value.oneCell']) (by simp only [maxLen]; (first | omega | (simp only [List.length_append, List.length_nil, List.length_cons, List.length_take, List.length_drop] at *; omega) | (have : exC.length = 6 := rfl; omega) | decide | (have : exSB.length = 14 := rfl; omega))) (by first | omega | (simp only [List.length_append, List.length_nil, List.length_cons, List.length_take, List.length_drop] at *; omega) | (have : exC.length = 6 := rfl; omega) | decide | (have : exSB.length = 14 := rfl; omega)) (by decide) (fun v11 m11 mk11 hmk11 hN11 hK11 => ?_)
  have ho11 : OwnL .byte mk11 mnil v11 (exSB ++ [UInt8.ofNat 3, UInt8.ofNat 3, UInt8.ofNat 1, UInt8.ofNat 1]) := OwnL.more (ys := [UInt8.ofNat 3, UInt8.ofNat 3, UInt8.ofNat 1, UInt8.ofNat 1]) hC11 hN11 (All2c.cons (c1 := [Value.int .u8 (3)]) (rd_byteN (by first | omega | (simp only [List.length_append, List.length_nil, List.length_cons, List.length_take, List.length_drop] at *; omega) | (have : exC.length = 6 := rfl; omega) | decide | (have : exSB.length = 14 := rfl; omega))) (All2c.cons (c1 := [Value.int .u8 (3)]) (rd_byteN (by first | omega | (simp only [List.length_append, List.length_nil, List.length_cons, List.length_take, List.length_drop] at *; omega) | (have : exC.length = 6 := rfl; omega) | decide | (have : exSB.length = 14 := rfl; omega))) (All2c.cons (c1 := [Value.int .u8 (1)]) (rd_byteN (by first | omega | (simp only [List.length_append, List.length_nil, List.length_cons, List.length_take, List.length_drop] at *; omega) | (have : exC.length = 6 := rfl; omega) | decide | (have : exSB.length = 14 := rfl; omega))) (All2c.cons (c1 := [Value.int .u8 (1)]) (rd_byteN (by first | omega | (simp only [List.length_append, List.length_nil, List.length_cons, List.length_take, List.length_drop] at *; omega) | (have : exC.length = 6 := rfl; omega) | decide | (have : exSB.length = 14 := rfl; omega))) All2c.nil))))
  replace ho11 := OwnL.up ho11 hmk11
  have hkp11 : Rd (.sl .byte) (m11) [Value.slice A1_1 (exSB.length) (c1_1)] exSB := KeptA.rd hK11 (All2c.mono hC11 fun _ _ h => Rd.flat rfl h _)
  obtain ⟨A11, c11, rfl, l11, k11⟩ := ho11.slice
  simp only [maxLen] at k11
  refine VO.callN 112 rfl fnOk18 rfl (fun W hW => oScan_ok W (OwnL.rd ho11 (hW.at (i := 103) rfl) (mle_nil _)) (by first | omega | (simp only [List.length_append, List.length_nil, List.length_cons, List.length_take, List.length_drop] at *; omega) | (have : exC.length = 6 := rfl; omega) | decide | (have : exSB.length = 14 := rfl; omega))) (fun v12 m12 hv12 => ?_)
  obtain ⟨s12_0, rfl, f12_0⟩ := hv12
  have hfa13 := scanF_bounds (exSB ++ [UInt8.ofNat 3, UInt8.ofNat 3, UInt8.ofNat 1, UInt8.ofNat 1])
  obtain ⟨A12_0, c12_0, eq12_0, l12_0, k12_0⟩ := f12_0.slice
  subst eq12_0
  simp only [maxLen] at k12_0
  refine VO.mv ?_
  refine VO.y rfl (.ext rfl rfl) ?_
  refine VO.y rfl (.ext rfl rfl) ?_
  refine VO.as ?_
  refine VO.as ?_
  refine VO.k7 0 1 2 3 4 5 6 ?_
  refine VC.rs ?_
  refine VO.mv ?_
  refine VO.y rfl (.eql rfl rfl) ?_
  refine VO.mv ?_
  refine VO.dec (t := 25) rfl (fun hc14 => ?_) (fun hc14 => ?_)
  · -- T
    refine VO.gy rfl ⟨_, rfl, rfl⟩ (.mv rfl) ?_
    refine VO.gy rfl ⟨_, rfl, rfl⟩ (.mv rfl) ?_
    have hs15 := hkp11.pre (j := 14) (by first | omega | (simp only [List.length_append, List.length_nil, List.length_cons, List.length_take, List.length_drop] at *; omega) | (have : exC.length = 6 := rfl; omega) | decide | (have : exSB.length = 14 := rfl; omega))
    refine VO.gy rfl ⟨_, rfl, rfl⟩ (.slHI 14 rfl rfl tsl25 rfl (by first | omega | (simp only [List.length_append, List.length_nil, List.length_cons, List.length_take, List.length_drop] at *; omega) | (have : exC.length = 6 := rfl; omega) | decide | (have : exSB.length = 14 := rfl; omega))) ?_
    refine VO.gcallN 116 rfl ⟨_, rfl, rfl⟩ fnOk21 rfl (fun W hW => SameBytes_ok W (OwnL.rd (Ow.ownl f7_0 rfl mnil) (hW.at (i := 107) rfl) (mle_nil _)) (Rd.mono hs15 (hW.at (i := 103) rfl))) (fun v16 m16 hv16 => ?_)
    subst hv16
    refine VO.y rfl (.pT rfl rfl) ?_
    refine VO.mv ?_
    refine VO.dec (t := 31) rfl (fun hc17 => ?_) (fun hc17 => ?_)
    · -- TT
      refine VO.gy rfl ⟨_, rfl, rfl⟩ (.mv rfl) ?_
      refine VO.gy rfl ⟨_, rfl, rfl⟩ (.eql rfl rfl) ?_
      refine VO.y rfl (.pT rfl rfl) ?_
      refine VO.mv ?_
      refine VO.dec (t := 35) rfl (fun hc18 => ?_) (fun hc18 => ?_)
      · -- TTT
        refine VO.gy rfl ⟨_, rfl, rfl⟩ (.mv rfl) ?_
        refine VO.gy rfl ⟨_, rfl, rfl⟩ (.ldA 106 rfl tk24 rfl (cellsAt_one rfl rfl)) ?_
        refine VO.gbsl (cs := [Value.int .i64 (exS.1), Value.int .i64 (exS.2.1), Value.slice q1_0_A2 (exS.2.2.length) (q1_0_c2)]) 120 rfl ⟨_, rfl, rfl⟩ rfl tsl41 tz24 rfl rfl (fun g19 => ?_)
        refine VO.gather (l := [mone g19 (.cells [Value.int .i64 (exS.1), Value.int .i64 (exS.2.1), Value.slice q1_0_A2 (exS.2.2.length) (q1_0_c2)].toArray 24 (0, 0)), q1_0_n2]) 123 [120, 104] rfl (fun hg22 => ?_)
        have ho22 : Ow (.sl TSection) (muns [mone g19 (.cells [Value.int .i64 (exS.1), Value.int .i64 (exS.2.1), Value.slice q1_0_A2 (exS.2.2.length) (q1_0_c2)].toArray 24 (0, 0)), q1_0_n2]) [Value.slice (some ⟨g19, 0, none⟩) (1) (1)] [exS] := Ow.lit 1 (Seps.grp1 (ls := [[q1_0_n2]]) hg22) (OwAs.cons (m := muns [q1_0_n2]) (c1 := [Value.int .i64 (exS.1), Value.int .i64 (exS.2.1), Value.slice q1_0_A2 (exS.2.2.length) (q1_0_c2)]) (show Ow TSection _ _ exS from (mkO_Section exS.1 exS.2.1 exS.2.2 (Seps.self hg22 (List.Sublist.cons _ (List.Sublist.cons_cons _ List.Sublist.slnil))) (by simp only [inK]; (first | omega | (simp only [List.length_append, List.length_nil, List.length_cons, List.length_take, List.length_drop] at *; omega) | (have : exC.length = 6 := rfl; omega) | decide | (have : exSB.length = 14 := rfl; omega))) (by simp only [inK]; (first | omega | (simp only [List.length_append, List.length_nil, List.length_cons, List.length_take, List.length_drop] at *; omega) | (have : exC.length = 6 := rfl; omega) | decide | (have : exSB.length = 14 := rfl; omega))) q1_0_2)) OwAs.nil) rfl rfl
        refine VO.gcallN 121 rfl ⟨_, rfl, rfl⟩ fnOk22 rfl (fun W hW => SameSections_ok W (Ow.rd f12_0 (hW.at (i := 112) rfl)) (Ow.rd ho22 (hW.at (i := 123) rfl))) (fun v21 m21 hv21 => ?_)
        subst hv21
        refine VO.y rfl (.pT rfl rfl) ?_
        refine VO.as ?_
        refine VO.k7 0 1 2 3 4 5 6 ?_
        refine VC.ret ?_
        refine ⟨_, _, res_run (rs := [.tmp 0]) rfl (.tmp rfl .nil), fun W_ hI => out_of (l := []) hI [] rfl rfl (mle_refl _) (fun hS_ => ?_)⟩
        dsimp only [packV]
        all_goals (first | rfl | (first | exact congrArg Value.bool (decide_eq_true (by subst_vars; first | rfl | decide | (simp only [ex19E, ex19D, ex19F]; done) | (simp only [ex19E, ex19D, ex19F]; first | rfl | decide) | exact ex19H.1 | (rw [ex19H.1]; done) | (rw [ex19H.2]; done))) | (simp only [ex19H.1, ex19H.2]; rfl)))
      · -- TTF
        first | exact absurd (by subst_vars; first | rfl | decide | (simp only [ex19E, ex19D, ex19F]; done) | (simp only [ex19E, ex19D, ex19F]; first | rfl | decide) | exact ex19H.1 | (rw [ex19H.1]; done) | (rw [ex19H.2]; done)) hc18 | (rw [ex19H.1] at hc18; cases hc18) | (rw [ex19H.2] at hc18; cases hc18)
    · -- TF
      first | exact absurd (by subst_vars; first | rfl | decide | (simp only [ex19E, ex19D, ex19F]; done) | (simp only [ex19E, ex19D, ex19F]; first | rfl | decide) | exact ex19H.1 | (rw [ex19H.1]; done) | (rw [ex19H.2]; done)) hc17 | (rw [ex19H.1] at hc17; cases hc17) | (rw [ex19H.2] at hc17; cases hc17)
  · -- F
    first | exact absurd (by subst_vars; first | rfl | decide | (simp only [ex19E, ex19D, ex19F]; done) | (simp only [ex19E, ex19D, ex19F]; first | rfl | decide) | exact ex19H.1 | (rw [ex19H.1]; done) | (rw [ex19H.2]; done)) hc14 | (rw [ex19H.1] at hc14; cases hc14) | (rw [ex19H.2] at hc14; cases hc14)
theorem orphanNames_ok (W : World) : CallR Try.prog 3 [] W (mnil) (fun v m' => v = .bool true) := by
  refine CallR.ofA (n := 42) Try.func3 rfl rfl rfl ?_
  refine VC.rs ?_
  refine VO.as ?_
  refine VO.k1 0 ?_
  refine VC.rs ?_
  refine VO.as ?_
  refine VO.k2 0 1 ?_
  refine VC.rs ?_
  refine VO.callN 101 rfl fnOk8 rfl (fun W hW => example19_ok W ) (fun v1 m1 hv1 => ?_)
  obtain ⟨s1_0, s1_1, p1_0, p1_1, rfl, hS1, f1_0, f1_1⟩ := hv1
  refine VO.inv _ (fun _ h => h.parts (i := 101) rfl hS1 [102, 103]) ?_
  obtain ⟨q1_0_A2, q1_0_c2, q1_0_n2, rfl, q1_0_S, q1_0_0, q1_0_1, q1_0_2⟩ := openO_Section (x0 := exS.1) (x1 := exS.2.1) (x2 := exS.2.2) f1_0
  simp only [inK] at q1_0_0
  simp only [inK] at q1_0_1
  have q1_0_r2 := Rd.room (q1_0_2.rd (mle_refl _))
  refine VO.inv _ (fun _ h => h.parts (i := 102) rfl q1_0_S [104]) ?_
  obtain ⟨A1_1, c1_1, eq1_1, l1_1, k1_1⟩ := f1_1.slice
  subst eq1_1
  simp only [maxLen] at k1_1
  refine VO.mv ?_
  refine VO.y rfl (.ext rfl rfl) ?_
  refine VO.y rfl (.ext rfl rfl) ?_
  refine VO.alloc 106 rfl tz24 (fun g5 => ?_)
  refine VO.store (k := 3) (c' := [Value.int .i64 (exS.1), Value.int .i64 (exS.2.1), Value.slice q1_0_A2 (exS.2.2.length) (q1_0_c2)]) 106 rfl rfl (.inl tk24) rfl rfl rfl rfl rfl ?_
  refine VO.as ?_
  refine VO.keep [103, 0] [(103, p1_1), (0, wm W)] (by kernel_rfl) ?_
  refine VO.k3 0 1 3 ?_
  refine VC.rs ?_
  refine VO.callN 107 rfl fnOk10 rfl (fun W hW => put19_ok W 1 (by simp only [inK]; (first | omega | (simp only [List.length_append, List.length_nil, List.length_cons, List.length_take, List.length_drop] at *; omega) | (have : exC.length = 6 := rfl; omega) | decide | (have : exSB.length = 14 := rfl; omega))) 2 (by simp only [inK]; (first | omega | (simp only [List.length_append, List.length_nil, List.length_cons, List.length_take, List.length_drop] at *; omega) | (have : exC.length = 6 := rfl; omega) | decide | (have : exSB.length = 14 := rfl; omega)))) (fun v7 m7 hv7 => ?_)
  obtain ⟨s7_0, rfl, f7_0⟩ := hv7
  obtain ⟨q7_0_A2, q7_0_c2, q7_0_n2, rfl, q7_0_S, q7_0_0, q7_0_1, q7_0_2⟩ := openO_Commit (x0 := (ofC 1 2).1) (x1 := (ofC 1 2).2.1) (x2 := (ofC 1 2).2.2) f7_0
  simp only [inK] at q7_0_0
  simp only [inK] at q7_0_1
  have q7_0_r2 := Rd.room (q7_0_2.rd (mle_refl _))
  refine VO.inv _ (fun _ h => h.parts (i := 107) rfl q7_0_S [108]) ?_
  refine VO.bsl (cs := [Value.int .i64 ((ofC 1 2).1), Value.int .i64 ((ofC 1 2).2.1), Value.slice q7_0_A2 (((ofC 1 2).2.2).length) (q7_0_c2)]) 110 rfl rfl tsl22 tz32 rfl rfl (fun g9 => ?_)
  refine VO.y rfl (.bst (cs := [Value.int .i64 (1), Value.int .i64 (1), Value.slice (some ⟨g9, 0, none⟩) (1) (1)]) rfl tst24 tz24 rfl) ?_
  refine VO.gather (l := [mone g9 (.cells [Value.int .i64 ((ofC 1 2).1), Value.int .i64 ((ofC 1 2).2.1), Value.slice q7_0_A2 (((ofC 1 2).2.2).length) (q7_0_c2)].toArray 32 (0, 0)), q7_0_n2]) 113 [110, 108] rfl (fun hg12 => ?_)
  have ho12 : Ow (.sl TCommit) (muns [mone g9 (.cells [Value.int .i64 ((ofC 1 2).1), Value.int .i64 ((ofC 1 2).2.1), Value.slice q7_0_A2 (((ofC 1 2).2.2).length) (q7_0_c2)].toArray 32 (0, 0)), q7_0_n2]) [Value.slice (some ⟨g9, 0, none⟩) (1) (1)] [(ofC 1 2)] := Ow.lit 1 (Seps.grp1 (ls := [[q7_0_n2]]) hg12) (OwAs.cons (m := muns [q7_0_n2]) (c1 := [Value.int .i64 ((ofC 1 2).1), Value.int .i64 ((ofC 1 2).2.1), Value.slice q7_0_A2 (((ofC 1 2).2.2).length) (q7_0_c2)]) (show Ow TCommit _ _ (ofC 1 2) from (mkO_Commit ((ofC 1 2).1) ((ofC 1 2).2.1) ((ofC 1 2).2.2) (Seps.self hg12 (List.Sublist.cons _ (List.Sublist.cons_cons _ List.Sublist.slnil))) (by simp only [inK]; (first | omega | (simp only [List.length_append, List.length_nil, List.length_cons, List.length_take, List.length_drop] at *; omega) | (have : exC.length = 6 := rfl; omega) | decide | (have : exSB.length = 14 := rfl; omega))) (by simp only [inK]; (first | omega | (simp only [List.length_append, List.length_nil, List.length_cons, List.length_take, List.length_drop] at *; omega) | (have : exC.length = 6 := rfl; omega) | decide | (have : exSB.length = 14 := rfl; omega))) (OwnL.ow (Ow.ownl q7_0_2 rfl mnil) rfl))) OwAs.nil) rfl rfl
  refine VO.callN 111 rfl fnOk9 rfl (fun W hW => sectCheck_ok W (mk_Section (m := wm W) 1 1 ([(ofC 1 2)]) (by simp only [inK]; (first | omega | (simp only [List.length_append, List.length_nil, List.length_cons, List.length_take, List.length_drop] at *; omega) | (have : exC.length = 6 := rfl; omega) | decide | (have : exSB.length = 14 := rfl; omega))) (by simp only [inK]; (first | omega | (simp only [List.length_append, List.length_nil, List.length_cons, List.length_take, List.length_drop] at *; omega) | (have : exC.length = 6 := rfl; omega) | decide | (have : exSB.length = 14 := rfl; omega))) (Ow.rd ho12 (hW.at (i := 113) rfl)))) (fun v11 m11 hv11 => ?_)
  try dsimp only at hv11
  subst hv11
  have hfa14 := sectCheck_range (1, 1, [(ofC 1 2)])
  refine VO.y rfl (.eql rfl rfl) ?_
  refine VO.mv ?_
  refine VO.dec (t := 14) rfl (fun hc15 => ?_) (fun hc15 => ?_)
  · -- T
    refine VO.gcallN 116 rfl ⟨_, rfl, rfl⟩ fnOk10 rfl (fun W hW => put19_ok W 1 (by simp only [inK]; (first | omega | (simp only [List.length_append, List.length_nil, List.length_cons, List.length_take, List.length_drop] at *; omega) | (have : exC.length = 6 := rfl; omega) | decide | (have : exSB.length = 14 := rfl; omega))) 2 (by simp only [inK]; (first | omega | (simp only [List.length_append, List.length_nil, List.length_cons, List.length_take, List.length_drop] at *; omega) | (have : exC.length = 6 := rfl; omega) | decide | (have : exSB.length = 14 := rfl; omega)))) (fun v16 m16 hv16 => ?_)
    obtain ⟨s16_0, rfl, f16_0⟩ := hv16
    obtain ⟨q16_0_A2, q16_0_c2, q16_0_n2, rfl, q16_0_S, q16_0_0, q16_0_1, q16_0_2⟩ := openO_Commit (x0 := (ofC 1 2).1) (x1 := (ofC 1 2).2.1) (x2 := (ofC 1 2).2.2) f16_0
    simp only [inK] at q16_0_0
    simp only [inK] at q16_0_1
    have q16_0_r2 := Rd.room (q16_0_2.rd (mle_refl _))
    refine VO.inv _ (fun _ h => h.parts (i := 116) rfl q16_0_S [117]) ?_
    refine VO.gbsl (cs := [Value.int .i64 ((ofC 1 2).1), Value.int .i64 ((ofC 1 2).2.1), Value.slice q16_0_A2 (((ofC 1 2).2.2).length) (q16_0_c2)]) 119 rfl ⟨_, rfl, rfl⟩ rfl tsl22 tz32 rfl rfl (fun g18 => ?_)
    refine VO.gy rfl ⟨_, rfl, rfl⟩ (.bst (cs := [Value.int .i64 (2), Value.int .i64 (2), Value.slice (some ⟨g18, 0, none⟩) (1) (1)]) rfl tst24 tz24 rfl) ?_
    refine VO.gather (l := [mone g18 (.cells [Value.int .i64 ((ofC 1 2).1), Value.int .i64 ((ofC 1 2).2.1), Value.slice q16_0_A2 (((ofC 1 2).2.2).length) (q16_0_c2)].toArray 32 (0, 0)), q16_0_n2]) 122 [119, 117] rfl (fun hg21 => ?_)
    have ho21 : Ow (.sl TCommit) (muns [mone g18 (.cells [Value.int .i64 ((ofC 1 2).1), Value.int .i64 ((ofC 1 2).2.1), Value.slice q16_0_A2 (((ofC 1 2).2.2).length) (q16_0_c2)].toArray 32 (0, 0)), q16_0_n2]) [Value.slice (some ⟨g18, 0, none⟩) (1) (1)] [(ofC 1 2)] := Ow.lit 1 (Seps.grp1 (ls := [[q16_0_n2]]) hg21) (OwAs.cons (m := muns [q16_0_n2]) (c1 := [Value.int .i64 ((ofC 1 2).1), Value.int .i64 ((ofC 1 2).2.1), Value.slice q16_0_A2 (((ofC 1 2).2.2).length) (q16_0_c2)]) (show Ow TCommit _ _ (ofC 1 2) from (mkO_Commit ((ofC 1 2).1) ((ofC 1 2).2.1) ((ofC 1 2).2.2) (Seps.self hg21 (List.Sublist.cons _ (List.Sublist.cons_cons _ List.Sublist.slnil))) (by simp only [inK]; (first | omega | (simp only [List.length_append, List.length_nil, List.length_cons, List.length_take, List.length_drop] at *; omega) | (have : exC.length = 6 := rfl; omega) | decide | (have : exSB.length = 14 := rfl; omega))) (by simp only [inK]; (first | omega | (simp only [List.length_append, List.length_nil, List.length_cons, List.length_take, List.length_drop] at *; omega) | (have : exC.length = 6 := rfl; omega) | decide | (have : exSB.length = 14 := rfl; omega))) (OwnL.ow (Ow.ownl q16_0_2 rfl mnil) rfl))) OwAs.nil) rfl rfl
    refine VO.gcallN 120 rfl ⟨_, rfl, rfl⟩ fnOk9 rfl (fun W hW => sectCheck_ok W (mk_Section (m := wm W) 2 2 ([(ofC 1 2)]) (by simp only [inK]; (first | omega | (simp only [List.length_append, List.length_nil, List.length_cons, List.length_take, List.length_drop] at *; omega) | (have : exC.length = 6 := rfl; omega) | decide | (have : exSB.length = 14 := rfl; omega))) (by simp only [inK]; (first | omega | (simp only [List.length_append, List.length_nil, List.length_cons, List.length_take, List.length_drop] at *; omega) | (have : exC.length = 6 := rfl; omega) | decide | (have : exSB.length = 14 := rfl; omega))) (Ow.rd ho21 (hW.at (i := 122) rfl)))) (fun v20 m20 hv20 => ?_)
    try dsimp only at hv20
    subst hv20
    have hfa23 := sectCheck_range (2, 2, [(ofC 1 2)])
    refine VO.gy rfl ⟨_, rfl, rfl⟩ (.eql rfl rfl) ?_
    refine VO.y rfl (.pT rfl rfl) ?_
    refine VO.mv ?_
    refine VO.dec (t := 21) rfl (fun hc24 => ?_) (fun hc24 => ?_)
    · -- TT
      refine VO.gy rfl ⟨_, rfl, rfl⟩ (.bst (cs := [Value.int .i64 (2), Value.int .i64 (1), Value.slice none (0) (0)]) rfl tst24 tz24 rfl) ?_
      refine VO.gcallN 125 rfl ⟨_, rfl, rfl⟩ fnOk9 rfl (fun W hW => sectCheck_ok W (mk_Section (m := wm W) 2 1 [] (by simp only [inK]; (first | omega | (simp only [List.length_append, List.length_nil, List.length_cons, List.length_take, List.length_drop] at *; omega) | (have : exC.length = 6 := rfl; omega) | decide | (have : exSB.length = 14 := rfl; omega))) (by simp only [inK]; (first | omega | (simp only [List.length_append, List.length_nil, List.length_cons, List.length_take, List.length_drop] at *; omega) | (have : exC.length = 6 := rfl; omega) | decide | (have : exSB.length = 14 := rfl; omega))) (Rd.nil _ _ none 0 (Nat.zero_le _)))) (fun v25 m25 hv25 => ?_)
      try dsimp only at hv25
      subst hv25
      have hfa26 := sectCheck_range (2, 1, [])
      refine VO.gy rfl ⟨_, rfl, rfl⟩ (.eql rfl rfl) ?_
      refine VO.y rfl (.pT rfl rfl) ?_
      refine VO.as ?_
      refine VO.k4 0 1 3 4 ?_
      refine VC.rs ?_
      refine VO.mv ?_
      refine VO.mv ?_
      refine VO.gcallN 127 rfl ⟨_, rfl, rfl⟩ fnOk11 rfl (fun W hW => lives19_ok W ) (fun v27 m27 hv27 => ?_)
      subst hv27
      refine VO.y rfl (.pT rfl rfl) ?_
      refine VO.mv ?_
      refine VO.gy rfl ⟨_, rfl, rfl⟩ (.mv rfl) ?_
      refine VO.y rfl (.pT rfl rfl) ?_
      refine VO.mv ?_
      refine VO.dec (t := 33) rfl (fun hc28 => ?_) (fun hc28 => ?_)
      · -- TTT
        refine VO.gy rfl ⟨_, rfl, rfl⟩ (.mv rfl) ?_
        refine VO.gcallN 129 rfl ⟨_, rfl, rfl⟩ fnOk12 rfl (fun W hW => oHas_ok W (OwnL.rd (Ow.ownl f1_1 rfl mnil) (hW.at (i := 103) rfl) (mle_nil _)) 1 (by simp only [inK]; (first | omega | (simp only [List.length_append, List.length_nil, List.length_cons, List.length_take, List.length_drop] at *; omega) | (have : exC.length = 6 := rfl; omega) | decide | (have : exSB.length = 14 := rfl; omega))) 2 (by simp only [inK]; (first | omega | (simp only [List.length_append, List.length_nil, List.length_cons, List.length_take, List.length_drop] at *; omega) | (have : exC.length = 6 := rfl; omega) | decide | (have : exSB.length = 14 := rfl; omega))) (by first | omega | (simp only [List.length_append, List.length_nil, List.length_cons, List.length_take, List.length_drop] at *; omega) | (have : exC.length = 6 := rfl; omega) | decide | (have : exSB.length = 14 := rfl; omega))) (fun v29 m29 hv29 => ?_)
        subst hv29
        refine VO.y rfl (.pT rfl rfl) ?_
        refine VO.mv ?_
        refine VO.decB (t := 37) rfl (fun hc30 => ?_) (fun hc30 => ?_)
        · -- TTTT
          refine VO.gy rfl ⟨_, rfl, rfl⟩ (.mv rfl) ?_
          refine VO.gcallN 131 rfl ⟨_, rfl, rfl⟩ fnOk12 rfl (fun W hW => oHas_ok W (OwnL.rd (Ow.ownl f1_1 rfl mnil) (hW.at (i := 103) rfl) (mle_nil _)) 2 (by simp only [inK]; (first | omega | (simp only [List.length_append, List.length_nil, List.length_cons, List.length_take, List.length_drop] at *; omega) | (have : exC.length = 6 := rfl; omega) | decide | (have : exSB.length = 14 := rfl; omega))) 2 (by simp only [inK]; (first | omega | (simp only [List.length_append, List.length_nil, List.length_cons, List.length_take, List.length_drop] at *; omega) | (have : exC.length = 6 := rfl; omega) | decide | (have : exSB.length = 14 := rfl; omega))) (by first | omega | (simp only [List.length_append, List.length_nil, List.length_cons, List.length_take, List.length_drop] at *; omega) | (have : exC.length = 6 := rfl; omega) | decide | (have : exSB.length = 14 := rfl; omega))) (fun v31 m31 hv31 => ?_)
          subst hv31
          refine VO.gy rfl ⟨_, rfl, rfl⟩ (.not rfl) ?_
          refine VO.y rfl (.pT rfl rfl) ?_
          refine VO.as ?_
          refine VO.keep [103, 0] [(103, p1_1), (0, wm W)] (by kernel_rfl) ?_
          refine VO.k4 0 1 3 4 ?_
          refine VC.ret ?_
          refine ⟨_, _, res_run (rs := [.tmp 0]) rfl (.tmp rfl .nil), fun W_ hI => out_of (l := []) hI [] rfl rfl (mle_refl _) (fun hS_ => ?_)⟩
          dsimp only [packV]
          all_goals (first | rfl | (first | exact congrArg Value.bool (decide_eq_true (by subst_vars; first | rfl | decide | (simp only [ex19E, ex19D, ex19F]; done) | (simp only [ex19E, ex19D, ex19F]; first | rfl | decide) | exact ex19H.1 | (rw [ex19H.1]; done) | (rw [ex19H.2]; done))) | (simp only [ex19H.1, ex19H.2]; rfl)))
        · -- TTTF
          first | exact absurd (by subst_vars; first | rfl | decide | (simp only [ex19E, ex19D, ex19F]; done) | (simp only [ex19E, ex19D, ex19F]; first | rfl | decide) | exact ex19H.1 | (rw [ex19H.1]; done) | (rw [ex19H.2]; done)) hc30 | (rw [ex19H.1] at hc30; cases hc30) | (rw [ex19H.2] at hc30; cases hc30)
      · -- TTF
        first | exact absurd (by subst_vars; first | rfl | decide | (simp only [ex19E, ex19D, ex19F]; done) | (simp only [ex19E, ex19D, ex19F]; first | rfl | decide) | exact ex19H.1 | (rw [ex19H.1]; done) | (rw [ex19H.2]; done)) hc28 | (rw [ex19H.1] at hc28; cases hc28) | (rw [ex19H.2] at hc28; cases hc28)
    · -- TF
      first | exact absurd (by subst_vars; first | rfl | decide | (simp only [ex19E, ex19D, ex19F]; done) | (simp only [ex19E, ex19D, ex19F]; first | rfl | decide) | exact ex19H.1 | (rw [ex19H.1]; done) | (rw [ex19H.2]; done)) hc24 | (rw [ex19H.1] at hc24; cases hc24) | (rw [ex19H.2] at hc24; cases hc24)
  · -- F
    first | exact absurd (by subst_vars; first | rfl | decide | (simp only [ex19E, ex19D, ex19F]; done) | (simp only [ex19E, ex19D, ex19F]; first | rfl | decide) | exact ex19H.1 | (rw [ex19H.1]; done) | (rw [ex19H.2]; done)) hc15 | (rw [ex19H.1] at hc15; cases hc15) | (rw [ex19H.2] at hc15; cases hc15)
end
section
set_option linter.unusedVariables false
set_option maxRecDepth 4000
open Go.ChangeShapes Go.WideShapes Go.ChangeAt Go.RowKit
set_option maxRecDepth 100000 in
theorem orphanNames_lifted (os : Os) (started : os.Started) (H : Type) (enc : TypeId × Value → H) :
    ReturnsInHanded {} Try.checked os 3 .any (Rows.orphanNamesSpec.pre6 enc Try.prog Try.f3 Rows.orphanNamesRow.domain false) (Rows.orphanNamesSpec.post enc Try.prog Try.f3 false true false false) := by
  refine returnsInHanded_of_change (C := Try.checked) (by kernel_rfl) started (by kernel_rfl) Try.func3
    (ChangeSpec.witness6 (enc := enc) (C := Try.checked) false ⟨#[], #[], []⟩ 8 (by kernel_rfl) (by kernel_rfl) (by kernel_rfl) (by kernel_rfl)) ?_
  intro W base args ds gs before hval0 hW hcnd _
  have hval : ∀ (j : Nat) t v, Try.f3.params[j]? = some t → args[j]? = some v → Value.okWide Try.prog W .any base t v := hval0
  have hW' := hW
  obtain ⟨p, q, hA0, hV, rfl, hfz, hnd⟩ := hW
  have hA : DataW.TrodAll enc Try.prog W 0 (fun _ => true) true Try.f3.params.toList args.toList ds p := hA0
  rw [Try.params3] at hA hval
  clear hA0 hval0
  obtain ⟨args⟩ := args
  obtain ⟨ha, rfl, rfl⟩ := trodAll_nil hA; simp only at ha; subst ha
  refine (calls_of (orphanNames_ok W )).mono fun e W' ⟨he, hg⟩ => ?_
  subst he
  exact ⟨_, rfl, law_post hW' hg laidOut_ok (by kernel_rfl) rfl Try.underlying4 rfl rfl rfl rfl⟩
theorem orphanNames_joined : joinedFacts Try.prog 3 Try.f3 Rows.orphanNamesSpec Rows.orphanNamesRow = true := by
  unfold joinedFacts
  rw [laidOut_ok, mapsRowed_ok, stopsHeard_ok, mayEnter_ok, lifts_ok, make_ok]
  kernel_rfl
theorem orphanNames_proved : Rows.OrphanNamesSaid :=
  OpenClaim.holds_of_wide 3 Try.f3 rfl rfl rfl rfl rfl rfl rfl ⟨rfl, rfl, rfl, rfl, rfl⟩ rfl rfl rfl rfl rfl (by kernel_rfl) Try.func3 orphanNames_joined
    (of_decide_eq_true (by kernel_rfl)) (by unfold Func.isWrapper; first | (rw [if_pos (by decide +kernel)]; kernel_rfl) | (rw [if_neg (by decide +kernel)]; exact ⟨rfl, rfl⟩))
    (fun os started H enc _ => orphanNames_lifted os started H enc)
#print axioms orphanNames_proved
end
end Go.Proofs.Ytbjkfnnabnacfaa
