/- Part 4 of the proof of LLetterCalls: what it needs of the library, the walks and the plain laws. Conditions: those named in each theorem. -/
import Derived.Test.YtcikgnbpcombpaaLLetterCallsM3
namespace Go.Proofs.Ytcikgnbpcombpaa
section
set_option linter.unusedVariables false
set_option linter.unusedSimpArgs false
set_option maxRecDepth 4000
theorem fnOk23 : fnOk Try.prog 23 = true := by kernel_rfl
theorem fnOk29 : fnOk Try.prog 29 = true := by kernel_rfl
theorem fnOk30 : fnOk Try.prog 30 = true := by kernel_rfl
theorem fnOk40 : fnOk Try.prog 40 = true := by kernel_rfl
theorem fnOk41 : fnOk Try.prog 41 = true := by kernel_rfl
theorem fnOk42 : fnOk Try.prog 42 = true := by kernel_rfl
theorem fnOk47 : fnOk Try.prog 47 = true := by kernel_rfl
theorem fnOk48 : fnOk Try.prog 48 = true := by kernel_rfl
theorem fnOk61 : fnOk Try.prog 61 = true := by kernel_rfl
theorem fnOk72 : fnOk Try.prog 72 = true := by kernel_rfl
theorem fnOk73 : fnOk Try.prog 73 = true := by kernel_rfl
theorem tz26 : tz Try.prog 26 = some [.int .i64 0, .int .i64 0, .int .u8 0, .int .i64 0, .slice none 0 0, .int .i64 0, .int .i64 0, .slice none 0 0] := by kernel_rfl
theorem plain11_ok (W : World) {v0 : List Value} {d0 : DMessage} (h0 : Rd TMessage (wm W) v0 d0) : CallR Try.prog 42 [.agg v0.toArray] W (mnil) (fun v m' => v = .bool (decide (bareM d0))) := by
  obtain ⟨p0_A4, p0_c4, p0_A7, p0_c7, rfl, p0_0, p0_1, p0_2, p0_3, p0_4, p0_5, p0_6, p0_7⟩ := open_Message (x0 := d0.1) (x1 := d0.2.1) (x2 := d0.2.2.1) (x3 := d0.2.2.2.1) (x4 := d0.2.2.2.2.1) (x5 := d0.2.2.2.2.2.1) (x6 := d0.2.2.2.2.2.2.1) (x7 := d0.2.2.2.2.2.2.2) h0
  simp only [inK] at p0_0
  simp only [inK] at p0_1
  simp only [inK] at p0_2
  simp only [inK] at p0_3
  have p0_r4 := Rd.room p0_4
  simp only [inK] at p0_5
  simp only [inK] at p0_6
  have p0_r7 := Rd.room p0_7
  refine CallR.ofA (n := 33) Try.func42 rfl rfl rfl ?_
  refine VC.rs ?_
  refine VO.box (cs := [Value.int .i64 (d0.1), Value.int .i64 (d0.2.1), Value.int .u8 (d0.2.2.1), Value.int .i64 (d0.2.2.2.1), Value.slice p0_A4 (d0.2.2.2.2.1.length) (p0_c4), Value.int .i64 (d0.2.2.2.2.2.1), Value.int .i64 (d0.2.2.2.2.2.2.1), Value.slice p0_A7 (d0.2.2.2.2.2.2.2.length) (p0_c7)]) 102 rfl rfl rfl (fun g1 => ?_)
  refine VO.as ?_
  refine VO.k3 0 1 2 ?_
  refine VC.rs ?_
  refine VO.y rfl (.fa rfl tst26 rfl) ?_
  refine VO.y rfl (.ld1 102 rfl tk22 rfl (cellsAt_one rfl rfl)) ?_
  refine VO.y rfl (.eql rfl rfl) ?_
  refine VO.mv ?_
  refine VO.dec (t := 6) rfl (fun hc3 => ?_) (fun hc3 => ?_)
  · -- T
    refine VO.gy rfl ⟨_, rfl, rfl⟩ (.fa rfl tst26 rfl) ?_
    refine VO.gy rfl ⟨_, rfl, rfl⟩ (.ld1 102 rfl tk3 rfl (cellsAt_one rfl rfl)) ?_
    refine VO.gy rfl ⟨_, rfl, rfl⟩ (.eql rfl rfl) ?_
    refine VO.y rfl (.pT rfl rfl) ?_
    refine VO.mv ?_
    refine VO.dec (t := 11) rfl (fun hc4 => ?_) (fun hc4 => ?_)
    · -- TT
      refine VO.gy rfl ⟨_, rfl, rfl⟩ (.fa rfl tst26 rfl) ?_
      refine VO.gy rfl ⟨_, rfl, rfl⟩ (.ld1 102 rfl tk23 rfl (cellsAt_one rfl rfl)) ?_
      refine VO.gy rfl ⟨_, rfl, rfl⟩ (.lenS rfl tsl23) ?_
      refine VO.gy rfl ⟨_, rfl, rfl⟩ (.eql rfl rfl) ?_
      refine VO.y rfl (.pT rfl rfl) ?_
      refine VO.mv ?_
      refine VO.dec (t := 17) rfl (fun hc5 => ?_) (fun hc5 => ?_)
      · -- TTT
        refine VO.gy rfl ⟨_, rfl, rfl⟩ (.fa rfl tst26 rfl) ?_
        refine VO.gy rfl ⟨_, rfl, rfl⟩ (.ld1 102 rfl tk3 rfl (cellsAt_one rfl rfl)) ?_
        refine VO.gy rfl ⟨_, rfl, rfl⟩ (.eql rfl rfl) ?_
        refine VO.y rfl (.pT rfl rfl) ?_
        refine VO.mv ?_
        refine VO.dec (t := 22) rfl (fun hc6 => ?_) (fun hc6 => ?_)
        · -- TTTT
          refine VO.gy rfl ⟨_, rfl, rfl⟩ (.fa rfl tst26 rfl) ?_
          refine VO.gy rfl ⟨_, rfl, rfl⟩ (.ld1 102 rfl tk3 rfl (cellsAt_one rfl rfl)) ?_
          refine VO.gy rfl ⟨_, rfl, rfl⟩ (.eql rfl rfl) ?_
          refine VO.y rfl (.pT rfl rfl) ?_
          refine VO.mv ?_
          refine VO.dec (t := 27) rfl (fun hc7 => ?_) (fun hc7 => ?_)
          · -- TTTTT
            refine VO.gy rfl ⟨_, rfl, rfl⟩ (.fa rfl tst26 rfl) ?_
            refine VO.gy rfl ⟨_, rfl, rfl⟩ (.ld1 102 rfl tk24 rfl (cellsAt_one rfl rfl)) ?_
            refine VO.gy rfl ⟨_, rfl, rfl⟩ (.lenS rfl tsl24) ?_
            refine VO.gy rfl ⟨_, rfl, rfl⟩ (.eql rfl rfl) ?_
            refine VO.y rfl (.pT rfl rfl) ?_
            refine VO.as ?_
            refine VO.k3 0 1 2 ?_
            refine VC.ret ?_
            refine ⟨_, _, res_run (rs := [.tmp 2]) rfl (.tmp rfl .nil), fun W_ hI => out_of (l := []) hI [] rfl rfl (mle_refl _) (fun hS_ => ?_)⟩
            dsimp only [packV]
            all_goals (first | rfl | (first | exact congrArg Value.bool (decide_eq_false (by unfold bareM; omega)).symm | exact congrArg Value.bool (decide_eq_decide.2 (by unfold bareM; omega))))
          · -- TTTTF
            refine VO.gN ?_
            refine VO.gN ?_
            refine VO.gN ?_
            refine VO.gN ?_
            refine VO.y rfl (.pF rfl rfl) ?_
            refine VO.as ?_
            refine VO.k3 0 1 2 ?_
            refine VC.ret ?_
            refine ⟨_, _, res_run (rs := [.tmp 2]) rfl (.tmp rfl .nil), fun W_ hI => out_of (l := []) hI [] rfl rfl (mle_refl _) (fun hS_ => ?_)⟩
            dsimp only [packV]
            all_goals (first | rfl | (first | exact congrArg Value.bool (decide_eq_false (by unfold bareM; omega)).symm | exact congrArg Value.bool (decide_eq_decide.2 (by unfold bareM; omega))))
        · -- TTTF
          refine VO.gN ?_
          refine VO.gN ?_
          refine VO.gN ?_
          refine VO.y rfl (.pF rfl rfl) ?_
          refine VO.mv ?_
          refine VO.gN ?_
          refine VO.gN ?_
          refine VO.gN ?_
          refine VO.gN ?_
          refine VO.y rfl (.pF rfl rfl) ?_
          refine VO.as ?_
          refine VO.k3 0 1 2 ?_
          refine VC.ret ?_
          refine ⟨_, _, res_run (rs := [.tmp 2]) rfl (.tmp rfl .nil), fun W_ hI => out_of (l := []) hI [] rfl rfl (mle_refl _) (fun hS_ => ?_)⟩
          dsimp only [packV]
          all_goals (first | rfl | (first | exact congrArg Value.bool (decide_eq_false (by unfold bareM; omega)).symm | exact congrArg Value.bool (decide_eq_decide.2 (by unfold bareM; omega))))
      · -- TTF
        refine VO.gN ?_
        refine VO.gN ?_
        refine VO.gN ?_
        refine VO.y rfl (.pF rfl rfl) ?_
        refine VO.mv ?_
        refine VO.gN ?_
        refine VO.gN ?_
        refine VO.gN ?_
        refine VO.y rfl (.pF rfl rfl) ?_
        refine VO.mv ?_
        refine VO.gN ?_
        refine VO.gN ?_
        refine VO.gN ?_
        refine VO.gN ?_
        refine VO.y rfl (.pF rfl rfl) ?_
        refine VO.as ?_
        refine VO.k3 0 1 2 ?_
        refine VC.ret ?_
        refine ⟨_, _, res_run (rs := [.tmp 2]) rfl (.tmp rfl .nil), fun W_ hI => out_of (l := []) hI [] rfl rfl (mle_refl _) (fun hS_ => ?_)⟩
        dsimp only [packV]
        all_goals (first | rfl | (first | exact congrArg Value.bool (decide_eq_false (by unfold bareM; omega)).symm | exact congrArg Value.bool (decide_eq_decide.2 (by unfold bareM; omega))))
    · -- TF
      refine VO.gN ?_
      refine VO.gN ?_
      refine VO.gN ?_
      refine VO.gN ?_
      refine VO.y rfl (.pF rfl rfl) ?_
      refine VO.mv ?_
      refine VO.gN ?_
      refine VO.gN ?_
      refine VO.gN ?_
      refine VO.y rfl (.pF rfl rfl) ?_
      refine VO.mv ?_
      refine VO.gN ?_
      refine VO.gN ?_
      refine VO.gN ?_
      refine VO.y rfl (.pF rfl rfl) ?_
      refine VO.mv ?_
      refine VO.gN ?_
      refine VO.gN ?_
      refine VO.gN ?_
      refine VO.gN ?_
      refine VO.y rfl (.pF rfl rfl) ?_
      refine VO.as ?_
      refine VO.k3 0 1 2 ?_
      refine VC.ret ?_
      refine ⟨_, _, res_run (rs := [.tmp 2]) rfl (.tmp rfl .nil), fun W_ hI => out_of (l := []) hI [] rfl rfl (mle_refl _) (fun hS_ => ?_)⟩
      dsimp only [packV]
      all_goals (first | rfl | (first | exact congrArg Value.bool (decide_eq_false (by unfold bareM; omega)).symm | exact congrArg Value.bool (decide_eq_decide.2 (by unfold bareM; omega))))
  · -- F
    refine VO.gN ?_
    refine VO.gN ?_
    refine VO.gN ?_
    refine VO.y rfl (.pF rfl rfl) ?_
    refine VO.mv ?_
    refine VO.gN ?_
    refine VO.gN ?_
    refine VO.gN ?_
    refine VO.gN ?_
    refine VO.y rfl (.pF rfl rfl) ?_
    refine VO.mv ?_
    refine VO.gN ?_
    refine VO.gN ?_
    refine VO.gN ?_
    refine VO.y rfl (.pF rfl rfl) ?_
    refine VO.mv ?_
    refine VO.gN ?_
    refine VO.gN ?_
    refine VO.gN ?_
    refine VO.y rfl (.pF rfl rfl) ?_
    refine VO.mv ?_
    refine VO.gN ?_
    refine VO.gN ?_
    refine VO.gN ?_
    refine VO.gN ?_
    refine VO.y rfl (.pF rfl rfl) ?_
    refine VO.as ?_
    refine VO.k3 0 1 2 ?_
    refine VC.ret ?_
    refine ⟨_, _, res_run (rs := [.tmp 2]) rfl (.tmp rfl .nil), fun W_ hI => out_of (l := []) hI [] rfl rfl (mle_refl _) (fun hS_ => ?_)⟩
    dsimp only [packV]
    all_goals (first | rfl | (first | exact congrArg Value.bool (decide_eq_false (by unfold bareM; omega)).symm | exact congrArg Value.bool (decide_eq_decide.2 (by unfold bareM; omega))))
theorem sCheck8_ok (W : World) {v0 : Value} {d0 : List DStart} (h0 : Rd (.sl TStart) (wm W) [v0] d0) (d1 : Int) (h1 : inK .i64 d1) : CallR Try.prog 72 [v0, .int .i64 d1] W (mnil) (fun v m' => v = .int .i64 (sCheck d0 d1)) := by
  obtain ⟨A0, c0, rfl, l0, k0⟩ := h0.slice
  simp only [maxLen] at k0
  have h1' := h1; simp only [inK] at h1'
  refine CallR.ofA (n := 93) Try.func72 rfl rfl rfl ?_
  refine VC.rs ?_
  refine VO.as ?_
  refine VO.k3 0 1 4 ?_
  refine VC.seq ?_
  refine VC.rs ?_
  refine VO.mv ?_
  refine VO.y rfl (.lss rfl rfl) ?_
  refine VO.mv ?_
  refine VO.dec (t := 8) rfl (fun hc1 => ?_) (fun hc1 => ?_)
  · -- T
    refine VO.gN ?_
    refine VO.gN ?_
    refine VO.y rfl (.pT rfl rfl) ?_
    refine VO.mv ?_
    refine VO.gN ?_
    refine VO.gN ?_
    refine VO.gN ?_
    refine VO.gN ?_
    refine VO.gN ?_
    refine VO.gN ?_
    refine VO.y rfl (.pT rfl rfl) ?_
    refine VO.k4 0 1 4 19 ?_
    refine VC.condT rfl ?_
    refine VC.rs ?_
    refine VO.as ?_
    refine VO.keep [0] [(0, wm W)] (by kernel_rfl) ?_
    refine VO.k4 0 1 4 19 ?_
    refine VC.ret ?_
    refine outR ?_
    refine ⟨_, _, res_run (rs := [.tmp 4]) rfl (.tmp rfl .nil), fun W_ hI => out_of (l := []) hI [] rfl rfl (mle_refl _) (fun hS_ => ?_)⟩
    dsimp only [packV]
    all_goals (first | rfl | (congr 1; first | exact (sCheck_arg (by omega)).symm | exact (sCheck_len ‹¬ decide _ = decide _›).symm | exact (bad8 hs hp ‹d0[k]? = some _› (by first | omega | exact .inr (.inr (.inr (.inr ⟨_, by omega, by assumption, by omega⟩))))).symm | exact (sCheck_good (by omega) (by omega) ‹¬ ¬ decide _ = decide _› (hs.2 (by rw [List.drop_of_length_le (by omega)]; trivial))).symm))
  · -- F
    refine VO.gy rfl ⟨_, rfl, rfl⟩ (.mv rfl) ?_
    refine VO.gy rfl ⟨_, rfl, rfl⟩ (.gtr rfl rfl) ?_
    refine VO.y rfl (.pF rfl rfl) ?_
    refine VO.mv ?_
    refine VO.dec (t := 12) rfl (fun hc2 => ?_) (fun hc2 => ?_)
    · -- FT
      refine VO.gN ?_
      refine VO.gN ?_
      refine VO.gN ?_
      refine VO.gN ?_
      refine VO.gN ?_
      refine VO.gN ?_
      refine VO.y rfl (.pT rfl rfl) ?_
      refine VO.k4 0 1 4 19 ?_
      refine VC.condT rfl ?_
      refine VC.rs ?_
      refine VO.as ?_
      refine VO.keep [0] [(0, wm W)] (by kernel_rfl) ?_
      refine VO.k4 0 1 4 19 ?_
      refine VC.ret ?_
      refine outR ?_
      refine ⟨_, _, res_run (rs := [.tmp 4]) rfl (.tmp rfl .nil), fun W_ hI => out_of (l := []) hI [] rfl rfl (mle_refl _) (fun hS_ => ?_)⟩
      dsimp only [packV]
      all_goals (first | rfl | (congr 1; first | exact (sCheck_arg (by omega)).symm | exact (sCheck_len ‹¬ decide _ = decide _›).symm | exact (bad8 hs hp ‹d0[k]? = some _› (by first | omega | exact .inr (.inr (.inr (.inr ⟨_, by omega, by assumption, by omega⟩))))).symm | exact (sCheck_good (by omega) (by omega) ‹¬ ¬ decide _ = decide _› (hs.2 (by rw [List.drop_of_length_le (by omega)]; trivial))).symm))
    · -- FF
      refine VO.gy rfl ⟨_, rfl, rfl⟩ (.mv rfl) ?_
      refine VO.gy rfl ⟨_, rfl, rfl⟩ (.lenS rfl tsl23) ?_
      refine VO.gy rfl ⟨_, rfl, rfl⟩ (.eql rfl rfl) ?_
      refine VO.gy rfl ⟨_, rfl, rfl⟩ (.mv rfl) ?_
      refine VO.gy rfl ⟨_, rfl, rfl⟩ (.eql rfl rfl) ?_
      refine VO.gy rfl ⟨_, rfl, rfl⟩ (.bneq rfl rfl Try.underlying4) ?_
      refine VO.y rfl (.pF rfl rfl) ?_
      refine VO.k4 0 1 4 19 ?_
      refine VC.cond rfl (fun hc3 => ?_) (fun hc3 => ?_)
      · -- FFT
        refine VC.rs ?_
        refine VO.as ?_
        refine VO.keep [0] [(0, wm W)] (by kernel_rfl) ?_
        refine VO.k4 0 1 4 19 ?_
        refine VC.ret ?_
        refine outR ?_
        refine ⟨_, _, res_run (rs := [.tmp 4]) rfl (.tmp rfl .nil), fun W_ hI => out_of (l := []) hI [] rfl rfl (mle_refl _) (fun hS_ => ?_)⟩
        dsimp only [packV]
        all_goals (first | rfl | (congr 1; first | exact (sCheck_arg (by omega)).symm | exact (sCheck_len ‹¬ decide _ = decide _›).symm | exact (bad8 hs hp ‹d0[k]? = some _› (by first | omega | exact .inr (.inr (.inr (.inr ⟨_, by omega, by assumption, by omega⟩))))).symm | exact (sCheck_good (by omega) (by omega) ‹¬ ¬ decide _ = decide _› (hs.2 (by rw [List.drop_of_length_le (by omega)]; trivial))).symm))
      · -- FFF
        refine VC.skip ?_
        refine outN ?_
        refine VC.seq ?_
        refine VC.rs ?_
        refine VO.as ?_
        refine VO.keep [0] [(0, wm W)] (by kernel_rfl) ?_
        refine VO.k5 0 1 4 5 19 ?_
        refine VC.block ?_
        refine VC.loop (G := Nat) (fun k => [(5, Value.int .i64 (((k : Nat) : Int))), (0, Value.slice A0 (d0.length) (c0)), (1, Value.int .i64 (d1)), (19, Value.bool (decide (¬ (decide (((d0.length : Nat) : Int) = 0)) = (decide (d1 = 0)))))]) (fun k => [(0, wm W)]) (fun k => (k ≤ d0.length) ∧ (0 ≤ (prevS d0 k).1) ∧ (sGo d1 0 0 0 d0 ↔ sGo d1 (prevS d0 k).1 (prevS d0 k).2 k (d0.drop k))) (fun k => d0.length - k) 0 (⟨by omega, by exact Int.le_refl _, by exact Iff.rfl⟩) ⟨⟨rfl, rfl, rfl, rfl, trivial⟩, fun _ h => h.sub [0]⟩ ?_
        rintro k ⟨hk, hp, hs⟩
        refine VC.seq ?_
        refine VC.rs ?_
        refine VO.mv ?_
        refine VO.mv ?_
        refine VO.y rfl (.lenS rfl tsl23) ?_
        refine VO.y rfl (.lss rfl rfl) ?_
        refine VO.k5 0 1 5 19 23 ?_
        refine VC.cond rfl (fun hc4 => ?_) (fun hc4 => ?_)
        · -- FFFT
          refine VC.skip ?_
          refine outN ?_
          refine VC.seq ?_
          refine VC.block ?_
          refine VC.seq ?_
          refine VC.regD _ 63 [(0, true), (1, true), (2, true), (3, true), (4, true), (5, true), (6, true), (7, true), (8, true), (9, true), (10, true), (11, true), (12, true), (13, true), (14, true), (15, true), (16, true), (17, true), (18, true), (19, true), (20, true), (21, true), (22, true), (23, true), (24, true), (25, true), (26, true), (27, true), (28, true), (29, true), (30, true), (31, true), (32, true), (33, true), (34, true), (35, true), (36, true), (37, true), (38, true), (39, true), (40, true), (41, true), (42, true), (43, true), (44, true), (45, true), (46, true), (47, true), (48, true), (49, true), (50, true), (51, true), (52, true), (53, true), (54, true), (55, true), (56, true), (57, true), (58, true), (59, true), (60, true), (61, true), (62, true)] follows (by kernel_rfl) (fun _ h => h.sub [0]) ?_
          refine VD.y rfl rfl (.inl rfl) (.mv rfl) ?_
          refine VD.y rfl rfl (.inl rfl) (.mv rfl) ?_
          obtain ⟨x5, hx5⟩ : ∃ z_, (d0)[k]? = some z_ := ⟨_, List.getElem?_eq_getElem bd⟩
          obtain ⟨gg5, oo5, ec5, ea5, hce5, hre5⟩ := h0.elem hx5
          cases ea5
          obtain ⟨rfl, q5_0, q5_1⟩ := open_Start (x0 := x5.1) (x1 := x5.2) hre5
          simp only [inK] at q5_0
          simp only [inK] at q5_1
          refine VD.y rfl rfl (.inl rfl) (.ixI k rfl rfl tsl23 rfl bd) ?_
          refine VD.y rfl rfl (.inl rfl) (.fa rfl tst57 rfl) ?_
          refine VD.y rfl rfl (.inl rfl) (.ld1 0 rfl tk3 rfl (hce5.at1 (j := 0) rfl)) ?_
          refine VD.y rfl rfl (.inl rfl) (.lss rfl rfl) ?_
          refine VD.y rfl rfl (.inl rfl) (.mv rfl) ?_
          refine VD.dec (s := 32) rfl (fun hc6 => ?_) (fun hc6 => ?_)
          · -- FFFTT
            refine VD.gn rfl rfl (.inl ⟨_, rfl, rfl⟩) ?_
            refine VD.gn rfl rfl (.inl ⟨_, rfl, rfl⟩) ?_
            refine VD.gn rfl rfl (.inl ⟨_, rfl, rfl⟩) ?_
            refine VD.gn rfl rfl (.inl ⟨_, rfl, rfl⟩) ?_
            refine VD.gn rfl rfl (.inl ⟨_, rfl, rfl⟩) ?_
            refine VD.gn rfl rfl (.inl ⟨_, rfl, rfl⟩) ?_
            refine VD.y rfl rfl (.inl rfl) (.pT rfl rfl) ?_
            refine VD.y rfl rfl (.inl rfl) (.mv rfl) ?_
            refine VD.gn rfl rfl (.inl ⟨_, rfl, rfl⟩) ?_
            refine VD.gn rfl rfl (.inl ⟨_, rfl, rfl⟩) ?_
            refine VD.gn rfl rfl (.inl ⟨_, rfl, rfl⟩) ?_
            refine VD.gn rfl rfl (.inl ⟨_, rfl, rfl⟩) ?_
            refine VD.gn rfl rfl (.inl ⟨_, rfl, rfl⟩) ?_
            refine VD.gn rfl rfl (.inl ⟨_, rfl, rfl⟩) ?_
            refine VD.gn rfl rfl (.inl ⟨_, rfl, rfl⟩) ?_
            refine VD.y rfl rfl (.inl rfl) (.pT rfl rfl) ?_
            refine VD.y rfl rfl (.inl rfl) (.mv rfl) ?_
            refine VD.gn rfl rfl (.inl ⟨_, rfl, rfl⟩) ?_
            refine VD.gn rfl rfl (.inl ⟨_, rfl, rfl⟩) ?_
            refine VD.gn rfl rfl (.inl ⟨_, rfl, rfl⟩) ?_
            refine VD.gn rfl rfl (.inr ⟨_, rfl, rfl⟩) ?_
            refine VD.gn rfl rfl (.inr ⟨_, rfl, rfl⟩) ?_
            refine VD.gn rfl rfl (.inr ⟨_, rfl, rfl⟩) ?_
            refine VD.gn rfl rfl (.inr ⟨_, rfl, rfl⟩) ?_
            refine VD.gn rfl rfl (.inr ⟨_, rfl, rfl⟩) ?_
            refine VD.gn rfl rfl (.inr ⟨_, rfl, rfl⟩) ?_
            refine VD.gn rfl rfl (.inl ⟨_, rfl, rfl⟩) ?_
            refine VD.y rfl rfl (.inl rfl) (.pT rfl rfl) ?_
            refine VD.y rfl rfl (.inl rfl) (.mv rfl) ?_
            refine VD.gn rfl rfl (.inl ⟨_, rfl, rfl⟩) ?_
            refine VD.gn rfl rfl (.inl ⟨_, rfl, rfl⟩) ?_
            refine VD.gn rfl rfl (.inl ⟨_, rfl, rfl⟩) ?_
            refine VD.gn rfl rfl (.inr ⟨_, rfl, rfl⟩) ?_
            refine VD.gn rfl rfl (.inr ⟨_, rfl, rfl⟩) ?_
            refine VD.gn rfl rfl (.inr ⟨_, rfl, rfl⟩) ?_
            refine VD.gn rfl rfl (.inr ⟨_, rfl, rfl⟩) ?_
            refine VD.gn rfl rfl (.inr ⟨_, rfl, rfl⟩) ?_
            refine VD.gn rfl rfl (.inr ⟨_, rfl, rfl⟩) ?_
            refine VD.gn rfl rfl (.inr ⟨_, rfl, rfl⟩) ?_
            refine VD.gn rfl rfl (.inr ⟨_, rfl, rfl⟩) ?_
            refine VD.gn rfl rfl (.inr ⟨_, rfl, rfl⟩) ?_
            refine VD.gn rfl rfl (.inr ⟨_, rfl, rfl⟩) ?_
            refine VD.gn rfl rfl (.inr ⟨_, rfl, rfl⟩) ?_
            refine VD.gn rfl rfl (.inr ⟨_, rfl, rfl⟩) ?_
            refine VD.gn rfl rfl (.inr ⟨_, rfl, rfl⟩) ?_
            refine VD.gn rfl rfl (.inr ⟨_, rfl, rfl⟩) ?_
            refine VD.gn rfl rfl (.inr ⟨_, rfl, rfl⟩) ?_
            refine VD.gn rfl rfl (.inr ⟨_, rfl, rfl⟩) ?_
            refine VD.gn rfl rfl (.inr ⟨_, rfl, rfl⟩) ?_
            refine VD.gn rfl rfl (.inr ⟨_, rfl, rfl⟩) ?_
            refine VD.gn rfl rfl (.inr ⟨_, rfl, rfl⟩) ?_
            refine VD.gn rfl rfl (.inr ⟨_, rfl, rfl⟩) ?_
            refine VD.gn rfl rfl (.inr ⟨_, rfl, rfl⟩) ?_
            refine VD.gn rfl rfl (.inr ⟨_, rfl, rfl⟩) ?_
            refine VD.gn rfl rfl (.inr ⟨_, rfl, rfl⟩) ?_
            refine VD.gn rfl rfl (.inr ⟨_, rfl, rfl⟩) ?_
            refine VD.nil rfl ?_ rfl
            refine VO.gn rfl (.inr ⟨_, rfl, rfl⟩) ?_
            refine VO.gn rfl (.inr ⟨_, rfl, rfl⟩) ?_
            refine VO.gN ?_
            refine VO.y rfl (.pT rfl rfl) ?_
            refine VO.k6 0 1 5 19 23 92 ?_
            refine outN ?_
            refine VC.condT rfl ?_
            refine VC.rs ?_
            refine VO.as ?_
            refine VO.keep [0] [(0, wm W)] (by kernel_rfl) ?_
            refine VO.k7 0 1 4 5 19 23 92 ?_
            refine VC.ret ?_
            refine outBR ?_
            refine outR ?_
            refine outR ?_
            refine outBR ?_
            refine outR ?_
            refine ⟨_, _, res_run (rs := [.tmp 4]) rfl (.tmp rfl .nil), fun W_ hI => out_of (l := []) hI [] rfl rfl (mle_refl _) (fun hS_ => ?_)⟩
            dsimp only [packV]
            all_goals (first | rfl | (congr 1; first | exact (sCheck_arg (by omega)).symm | exact (sCheck_len ‹¬ decide _ = decide _›).symm | exact (bad8 hs hp ‹d0[k]? = some _› (by first | omega | exact .inr (.inr (.inr (.inr ⟨_, by omega, by assumption, by omega⟩))))).symm | exact (sCheck_good (by omega) (by omega) ‹¬ ¬ decide _ = decide _› (hs.2 (by rw [List.drop_of_length_le (by omega)]; trivial))).symm))
          · -- FFFTF
            refine VD.y rfl rfl (.inr ⟨_, _, rfl, _, rfl, rfl⟩) (.mv rfl) ?_
            refine VD.y rfl rfl (.inr ⟨_, _, rfl, _, rfl, rfl⟩) (.mv rfl) ?_
            refine VD.y rfl rfl (.inr ⟨_, _, rfl, _, rfl, rfl⟩) (.ixI k rfl rfl tsl23 rfl bd) ?_
            refine VD.y rfl rfl (.inr ⟨_, _, rfl, _, rfl, rfl⟩) (.fa rfl tst57 rfl) ?_
            refine VD.y rfl rfl (.inr ⟨_, _, rfl, _, rfl, rfl⟩) (.ld1 0 rfl tk3 rfl (hce5.at1 (j := 0) rfl)) ?_
            refine VD.y rfl rfl (.inr ⟨_, _, rfl, _, rfl, rfl⟩) (.gtr rfl rfl) ?_
            refine VD.y rfl rfl (.inl rfl) (.pF rfl rfl) ?_
            refine VD.y rfl rfl (.inl rfl) (.mv rfl) ?_
            refine VD.dec (s := 40) rfl (fun hc8 => ?_) (fun hc8 => ?_)
            · -- FFFTFT
              refine VD.gn rfl rfl (.inl ⟨_, rfl, rfl⟩) ?_
              refine VD.gn rfl rfl (.inl ⟨_, rfl, rfl⟩) ?_
              refine VD.gn rfl rfl (.inl ⟨_, rfl, rfl⟩) ?_
              refine VD.gn rfl rfl (.inl ⟨_, rfl, rfl⟩) ?_
              refine VD.gn rfl rfl (.inl ⟨_, rfl, rfl⟩) ?_
              refine VD.gn rfl rfl (.inl ⟨_, rfl, rfl⟩) ?_
              refine VD.gn rfl rfl (.inl ⟨_, rfl, rfl⟩) ?_
              refine VD.y rfl rfl (.inl rfl) (.pT rfl rfl) ?_
              refine VD.y rfl rfl (.inl rfl) (.mv rfl) ?_
              refine VD.gn rfl rfl (.inl ⟨_, rfl, rfl⟩) ?_
              refine VD.gn rfl rfl (.inl ⟨_, rfl, rfl⟩) ?_
              refine VD.gn rfl rfl (.inl ⟨_, rfl, rfl⟩) ?_
              refine VD.gn rfl rfl (.inr ⟨_, rfl, rfl⟩) ?_
              refine VD.gn rfl rfl (.inr ⟨_, rfl, rfl⟩) ?_
              refine VD.gn rfl rfl (.inr ⟨_, rfl, rfl⟩) ?_
              refine VD.gn rfl rfl (.inr ⟨_, rfl, rfl⟩) ?_
              refine VD.gn rfl rfl (.inr ⟨_, rfl, rfl⟩) ?_
              refine VD.gn rfl rfl (.inr ⟨_, rfl, rfl⟩) ?_
              refine VD.gn rfl rfl (.inl ⟨_, rfl, rfl⟩) ?_
              refine VD.y rfl rfl (.inl rfl) (.pT rfl rfl) ?_
              refine VD.y rfl rfl (.inl rfl) (.mv rfl) ?_
              refine VD.gn rfl rfl (.inl ⟨_, rfl, rfl⟩) ?_
              refine VD.gn rfl rfl (.inl ⟨_, rfl, rfl⟩) ?_
              refine VD.gn rfl rfl (.inl ⟨_, rfl, rfl⟩) ?_
              refine VD.gn rfl rfl (.inr ⟨_, rfl, rfl⟩) ?_
              refine VD.gn rfl rfl (.inr ⟨_, rfl, rfl⟩) ?_
              refine VD.gn rfl rfl (.inr ⟨_, rfl, rfl⟩) ?_
              refine VD.gn rfl rfl (.inr ⟨_, rfl, rfl⟩) ?_
              refine VD.gn rfl rfl (.inr ⟨_, rfl, rfl⟩) ?_
              refine VD.gn rfl rfl (.inr ⟨_, rfl, rfl⟩) ?_
              refine VD.gn rfl rfl (.inr ⟨_, rfl, rfl⟩) ?_
              refine VD.gn rfl rfl (.inr ⟨_, rfl, rfl⟩) ?_
              refine VD.gn rfl rfl (.inr ⟨_, rfl, rfl⟩) ?_
              refine VD.gn rfl rfl (.inr ⟨_, rfl, rfl⟩) ?_
              refine VD.gn rfl rfl (.inr ⟨_, rfl, rfl⟩) ?_
              refine VD.gn rfl rfl (.inr ⟨_, rfl, rfl⟩) ?_
              refine VD.gn rfl rfl (.inr ⟨_, rfl, rfl⟩) ?_
              refine VD.gn rfl rfl (.inr ⟨_, rfl, rfl⟩) ?_
              refine VD.gn rfl rfl (.inr ⟨_, rfl, rfl⟩) ?_
              refine VD.gn rfl rfl (.inr ⟨_, rfl, rfl⟩) ?_
              refine VD.gn rfl rfl (.inr ⟨_, rfl, rfl⟩) ?_
              refine VD.gn rfl rfl (.inr ⟨_, rfl, rfl⟩) ?_
              refine VD.gn rfl rfl (.inr ⟨_, rfl, rfl⟩) ?_
              refine VD.gn rfl rfl (.inr ⟨_, rfl, rfl⟩) ?_
              refine VD.gn rfl rfl (.inr ⟨_, rfl, rfl⟩) ?_
              refine VD.gn rfl rfl (.inr ⟨_, rfl, rfl⟩) ?_
              refine VD.gn rfl rfl (.inr ⟨_, rfl, rfl⟩) ?_
              refine VD.gn rfl rfl (.inr ⟨_, rfl, rfl⟩) ?_
              refine VD.nil rfl ?_ rfl
              refine VO.gn rfl (.inr ⟨_, rfl, rfl⟩) ?_
              refine VO.gn rfl (.inr ⟨_, rfl, rfl⟩) ?_
              refine VO.gN ?_
              refine VO.y rfl (.pT rfl rfl) ?_
              refine VO.k6 0 1 5 19 23 92 ?_
              refine outN ?_
              refine VC.condT rfl ?_
              refine VC.rs ?_
              refine VO.as ?_
              refine VO.keep [0] [(0, wm W)] (by kernel_rfl) ?_
              refine VO.k7 0 1 4 5 19 23 92 ?_
              refine VC.ret ?_
              refine outBR ?_
              refine outR ?_
              refine outR ?_
              refine outBR ?_
              refine outR ?_
              refine ⟨_, _, res_run (rs := [.tmp 4]) rfl (.tmp rfl .nil), fun W_ hI => out_of (l := []) hI [] rfl rfl (mle_refl _) (fun hS_ => ?_)⟩
              dsimp only [packV]
              all_goals (first | rfl | (congr 1; first | exact (sCheck_arg (by omega)).symm | exact (sCheck_len ‹¬ decide _ = decide _›).symm | exact (bad8 hs hp ‹d0[k]? = some _› (by first | omega | exact .inr (.inr (.inr (.inr ⟨_, by omega, by assumption, by omega⟩))))).symm | exact (sCheck_good (by omega) (by omega) ‹¬ ¬ decide _ = decide _› (hs.2 (by rw [List.drop_of_length_le (by omega)]; trivial))).symm))
            · -- FFFTFF
              refine VD.y rfl rfl (.inr ⟨_, _, rfl, _, rfl, rfl⟩) (.mv rfl) ?_
              refine VD.y rfl rfl (.inr ⟨_, _, rfl, _, rfl, rfl⟩) (.mv rfl) ?_
              refine VD.y rfl rfl (.inr ⟨_, _, rfl, _, rfl, rfl⟩) (.ixI k rfl rfl tsl23 rfl bd) ?_
              refine VD.y rfl rfl (.inr ⟨_, _, rfl, _, rfl, rfl⟩) (.fa rfl tst57 rfl) ?_
              refine VD.y rfl rfl (.inr ⟨_, _, rfl, _, rfl, rfl⟩) (.ld1 0 rfl tk3 rfl (hce5.at1 (j := 1) rfl)) ?_
              refine VD.y rfl rfl (.inr ⟨_, _, rfl, _, rfl, rfl⟩) (.mv rfl) ?_
              refine VD.y rfl rfl (.inr ⟨_, _, rfl, _, rfl, rfl⟩) (.gtr rfl rfl) ?_
              refine VD.y rfl rfl (.inl rfl) (.pF rfl rfl) ?_
              refine VD.y rfl rfl (.inl rfl) (.mv rfl) ?_
              refine VD.dec (s := 49) rfl (fun hc10 => ?_) (fun hc10 => ?_)
              · -- FFFTFFT
                refine VD.gn rfl rfl (.inl ⟨_, rfl, rfl⟩) ?_
                refine VD.gn rfl rfl (.inl ⟨_, rfl, rfl⟩) ?_
                refine VD.gn rfl rfl (.inl ⟨_, rfl, rfl⟩) ?_
                refine VD.gn rfl rfl (.inr ⟨_, rfl, rfl⟩) ?_
                refine VD.gn rfl rfl (.inr ⟨_, rfl, rfl⟩) ?_
                refine VD.gn rfl rfl (.inr ⟨_, rfl, rfl⟩) ?_
                refine VD.gn rfl rfl (.inr ⟨_, rfl, rfl⟩) ?_
                refine VD.gn rfl rfl (.inr ⟨_, rfl, rfl⟩) ?_
                refine VD.gn rfl rfl (.inr ⟨_, rfl, rfl⟩) ?_
                refine VD.gn rfl rfl (.inl ⟨_, rfl, rfl⟩) ?_
                refine VD.y rfl rfl (.inl rfl) (.pT rfl rfl) ?_
                refine VD.y rfl rfl (.inl rfl) (.mv rfl) ?_
                refine VD.gn rfl rfl (.inl ⟨_, rfl, rfl⟩) ?_
                refine VD.gn rfl rfl (.inl ⟨_, rfl, rfl⟩) ?_
                refine VD.gn rfl rfl (.inl ⟨_, rfl, rfl⟩) ?_
                refine VD.gn rfl rfl (.inr ⟨_, rfl, rfl⟩) ?_
                refine VD.gn rfl rfl (.inr ⟨_, rfl, rfl⟩) ?_
                refine VD.gn rfl rfl (.inr ⟨_, rfl, rfl⟩) ?_
                refine VD.gn rfl rfl (.inr ⟨_, rfl, rfl⟩) ?_
                refine VD.gn rfl rfl (.inr ⟨_, rfl, rfl⟩) ?_
                refine VD.gn rfl rfl (.inr ⟨_, rfl, rfl⟩) ?_
                refine VD.gn rfl rfl (.inr ⟨_, rfl, rfl⟩) ?_
                refine VD.gn rfl rfl (.inr ⟨_, rfl, rfl⟩) ?_
                refine VD.gn rfl rfl (.inr ⟨_, rfl, rfl⟩) ?_
                refine VD.gn rfl rfl (.inr ⟨_, rfl, rfl⟩) ?_
                refine VD.gn rfl rfl (.inr ⟨_, rfl, rfl⟩) ?_
                refine VD.gn rfl rfl (.inr ⟨_, rfl, rfl⟩) ?_
                refine VD.gn rfl rfl (.inr ⟨_, rfl, rfl⟩) ?_
                refine VD.gn rfl rfl (.inr ⟨_, rfl, rfl⟩) ?_
                refine VD.gn rfl rfl (.inr ⟨_, rfl, rfl⟩) ?_
                refine VD.gn rfl rfl (.inr ⟨_, rfl, rfl⟩) ?_
                refine VD.gn rfl rfl (.inr ⟨_, rfl, rfl⟩) ?_
                refine VD.gn rfl rfl (.inr ⟨_, rfl, rfl⟩) ?_
                refine VD.gn rfl rfl (.inr ⟨_, rfl, rfl⟩) ?_
                refine VD.gn rfl rfl (.inr ⟨_, rfl, rfl⟩) ?_
                refine VD.gn rfl rfl (.inr ⟨_, rfl, rfl⟩) ?_
                refine VD.gn rfl rfl (.inr ⟨_, rfl, rfl⟩) ?_
                refine VD.gn rfl rfl (.inr ⟨_, rfl, rfl⟩) ?_
                refine VD.gn rfl rfl (.inr ⟨_, rfl, rfl⟩) ?_
                refine VD.nil rfl ?_ rfl
                refine VO.gn rfl (.inr ⟨_, rfl, rfl⟩) ?_
                refine VO.gn rfl (.inr ⟨_, rfl, rfl⟩) ?_
                refine VO.gN ?_
                refine VO.y rfl (.pT rfl rfl) ?_
                refine VO.k6 0 1 5 19 23 92 ?_
                refine outN ?_
                refine VC.condT rfl ?_
                refine VC.rs ?_
                refine VO.as ?_
                refine VO.keep [0] [(0, wm W)] (by kernel_rfl) ?_
                refine VO.k7 0 1 4 5 19 23 92 ?_
                refine VC.ret ?_
                refine outBR ?_
                refine outR ?_
                refine outR ?_
                refine outBR ?_
                refine outR ?_
                refine ⟨_, _, res_run (rs := [.tmp 4]) rfl (.tmp rfl .nil), fun W_ hI => out_of (l := []) hI [] rfl rfl (mle_refl _) (fun hS_ => ?_)⟩
                dsimp only [packV]
                all_goals (first | rfl | (congr 1; first | exact (sCheck_arg (by omega)).symm | exact (sCheck_len ‹¬ decide _ = decide _›).symm | exact (bad8 hs hp ‹d0[k]? = some _› (by first | omega | exact .inr (.inr (.inr (.inr ⟨_, by omega, by assumption, by omega⟩))))).symm | exact (sCheck_good (by omega) (by omega) ‹¬ ¬ decide _ = decide _› (hs.2 (by rw [List.drop_of_length_le (by omega)]; trivial))).symm))
              · -- FFFTFFF
                refine VD.y rfl rfl (.inr ⟨_, _, rfl, _, rfl, rfl⟩) (.mv rfl) ?_
                refine VD.y rfl rfl (.inr ⟨_, _, rfl, _, rfl, rfl⟩) (.eql rfl rfl) ?_
                refine VD.y rfl rfl (.inr ⟨_, _, rfl, _, rfl, rfl⟩) (.mv rfl) ?_
                refine VD.dec (s := 52) rfl (fun hc11 => ?_) (fun hc11 => ?_)
                · -- FFFTFFFT
                  refine VD.y rfl rfl (.inr ⟨_, _, rfl, _, rfl, rfl⟩) (.mv rfl) ?_
                  refine VD.y rfl rfl (.inr ⟨_, _, rfl, _, rfl, rfl⟩) (.mv rfl) ?_
                  refine VD.y rfl rfl (.inr ⟨_, _, rfl, _, rfl, rfl⟩) (.ixI k rfl rfl tsl23 rfl bd) ?_
                  refine VD.y rfl rfl (.inr ⟨_, _, rfl, _, rfl, rfl⟩) (.fa rfl tst57 rfl) ?_
                  refine VD.y rfl rfl (.inr ⟨_, _, rfl, _, rfl, rfl⟩) (.ld1 0 rfl tk3 rfl (hce5.at1 (j := 1) rfl)) ?_
                  refine VD.y rfl rfl (.inr ⟨_, _, rfl, _, rfl, rfl⟩) (.neq rfl rfl) ?_
                  refine VD.y rfl rfl (.inr ⟨_, _, rfl, _, rfl, rfl⟩) (.pT rfl rfl) ?_
                  refine VD.y rfl rfl (.inl rfl) (.pF rfl rfl) ?_
                  refine VD.y rfl rfl (.inl rfl) (.mv rfl) ?_
                  refine VD.dec (s := 61) rfl (fun hc13 => ?_) (fun hc13 => ?_)
                  · -- FFFTFFFTT
                    refine VD.gn rfl rfl (.inl ⟨_, rfl, rfl⟩) ?_
                    refine VD.gn rfl rfl (.inl ⟨_, rfl, rfl⟩) ?_
                    refine VD.gn rfl rfl (.inl ⟨_, rfl, rfl⟩) ?_
                    refine VD.gn rfl rfl (.inr ⟨_, rfl, rfl⟩) ?_
                    refine VD.gn rfl rfl (.inr ⟨_, rfl, rfl⟩) ?_
                    refine VD.gn rfl rfl (.inr ⟨_, rfl, rfl⟩) ?_
                    refine VD.gn rfl rfl (.inr ⟨_, rfl, rfl⟩) ?_
                    refine VD.gn rfl rfl (.inr ⟨_, rfl, rfl⟩) ?_
                    refine VD.gn rfl rfl (.inr ⟨_, rfl, rfl⟩) ?_
                    refine VD.gn rfl rfl (.inr ⟨_, rfl, rfl⟩) ?_
                    refine VD.gn rfl rfl (.inr ⟨_, rfl, rfl⟩) ?_
                    refine VD.gn rfl rfl (.inr ⟨_, rfl, rfl⟩) ?_
                    refine VD.gn rfl rfl (.inr ⟨_, rfl, rfl⟩) ?_
                    refine VD.gn rfl rfl (.inr ⟨_, rfl, rfl⟩) ?_
                    refine VD.gn rfl rfl (.inr ⟨_, rfl, rfl⟩) ?_
                    refine VD.gn rfl rfl (.inr ⟨_, rfl, rfl⟩) ?_
                    refine VD.gn rfl rfl (.inr ⟨_, rfl, rfl⟩) ?_
                    refine VD.gn rfl rfl (.inr ⟨_, rfl, rfl⟩) ?_
                    refine VD.gn rfl rfl (.inr ⟨_, rfl, rfl⟩) ?_
                    refine VD.gn rfl rfl (.inr ⟨_, rfl, rfl⟩) ?_
                    refine VD.gn rfl rfl (.inr ⟨_, rfl, rfl⟩) ?_
                    refine VD.gn rfl rfl (.inr ⟨_, rfl, rfl⟩) ?_
                    refine VD.gn rfl rfl (.inr ⟨_, rfl, rfl⟩) ?_
                    refine VD.gn rfl rfl (.inr ⟨_, rfl, rfl⟩) ?_
                    refine VD.gn rfl rfl (.inr ⟨_, rfl, rfl⟩) ?_
                    refine VD.gn rfl rfl (.inr ⟨_, rfl, rfl⟩) ?_
                    refine VD.gn rfl rfl (.inr ⟨_, rfl, rfl⟩) ?_
                    refine VD.nil rfl ?_ rfl
                    refine VO.gn rfl (.inr ⟨_, rfl, rfl⟩) ?_
                    refine VO.gn rfl (.inr ⟨_, rfl, rfl⟩) ?_
                    refine VO.gN ?_
                    refine VO.y rfl (.pT rfl rfl) ?_
                    refine VO.k6 0 1 5 19 23 92 ?_
                    refine outN ?_
                    refine VC.condT rfl ?_
                    refine VC.rs ?_
                    refine VO.as ?_
                    refine VO.keep [0] [(0, wm W)] (by kernel_rfl) ?_
                    refine VO.k7 0 1 4 5 19 23 92 ?_
                    refine VC.ret ?_
                    refine outBR ?_
                    refine outR ?_
                    refine outR ?_
                    refine outBR ?_
                    refine outR ?_
                    refine ⟨_, _, res_run (rs := [.tmp 4]) rfl (.tmp rfl .nil), fun W_ hI => out_of (l := []) hI [] rfl rfl (mle_refl _) (fun hS_ => ?_)⟩
                    dsimp only [packV]
                    all_goals (first | rfl | (congr 1; first | exact (sCheck_arg (by omega)).symm | exact (sCheck_len ‹¬ decide _ = decide _›).symm | exact (bad8 hs hp ‹d0[k]? = some _› (by first | omega | exact .inr (.inr (.inr (.inr ⟨_, by omega, by assumption, by omega⟩))))).symm | exact (sCheck_good (by omega) (by omega) ‹¬ ¬ decide _ = decide _› (hs.2 (by rw [List.drop_of_length_le (by omega)]; trivial))).symm))
                  · -- FFFTFFFTF
                    refine VD.y rfl rfl (.inr ⟨_, _, rfl, _, rfl, rfl⟩) (.mv rfl) ?_
                    refine VD.y rfl rfl (.inr ⟨_, _, rfl, _, rfl, rfl⟩) (.gtr rfl rfl) ?_
                    refine VD.y rfl rfl (.inr ⟨_, _, rfl, _, rfl, rfl⟩) (.mv rfl) ?_
                    refine VD.dec (s := 64) rfl (fun hc14 => ?_) (fun hc14 => ?_)
                    · -- FFFTFFFTFT
                      refine VD.y rfl rfl (.inr ⟨_, _, rfl, _, rfl, rfl⟩) (.mv rfl) ?_
                      refine VD.y rfl rfl (.inr ⟨_, _, rfl, _, rfl, rfl⟩) (.mv rfl) ?_
                      refine VD.y rfl rfl (.inr ⟨_, _, rfl, _, rfl, rfl⟩) (.ixI k rfl rfl tsl23 rfl bd) ?_
                      refine VD.y rfl rfl (.inr ⟨_, _, rfl, _, rfl, rfl⟩) (.fa rfl tst57 rfl) ?_
                      refine VD.y rfl rfl (.inr ⟨_, _, rfl, _, rfl, rfl⟩) (.ld1 0 rfl tk3 rfl (hce5.at1 (j := 0) rfl)) ?_
                      refine VD.y rfl rfl (.inr ⟨_, _, rfl, _, rfl, rfl⟩) (.mv rfl) ?_
                      refine VD.y rfl rfl (.inr ⟨_, _, rfl, _, rfl, rfl⟩) (.mv rfl) ?_
                      refine VD.y rfl rfl (.inr ⟨_, _, rfl, _, rfl, rfl⟩) (.sub rfl rfl rfl ⟨bd, bd⟩) ?_
                      obtain ⟨x16, hx16⟩ : ∃ z_, (d0)[(((k : Nat) : Int) - 1).toNat]? = some z_ := ⟨_, List.getElem?_eq_getElem bd⟩
                      obtain ⟨gg16, oo16, ec16, ea16, hce16, hre16⟩ := h0.elem hx16
                      cases ea16
                      obtain ⟨rfl, q16_0, q16_1⟩ := open_Start (x0 := x16.1) (x1 := x16.2) hre16
                      simp only [inK] at q16_0
                      simp only [inK] at q16_1
                      refine VD.y rfl rfl (.inr ⟨_, _, rfl, _, rfl, rfl⟩) (.ixI ((((k : Nat) : Int) - 1).toNat) rfl rfl tsl23 bd bd) ?_
                      refine VD.y rfl rfl (.inr ⟨_, _, rfl, _, rfl, rfl⟩) (.fa rfl tst57 rfl) ?_
                      refine VD.y rfl rfl (.inr ⟨_, _, rfl, _, rfl, rfl⟩) (.ld1 0 rfl tk3 rfl (hce16.at1 (j := 0) rfl)) ?_
                      refine VD.y rfl rfl (.inr ⟨_, _, rfl, _, rfl, rfl⟩) (.leq rfl rfl) ?_
                      refine VD.y rfl rfl (.inr ⟨_, _, rfl, _, rfl, rfl⟩) (.mv rfl) ?_
                      refine VD.dec (s := 77) rfl (fun hc17 => ?_) (fun hc17 => ?_)
                      · -- FFFTFFFTFTT
                        refine VD.gn rfl rfl (.inl ⟨_, rfl, rfl⟩) ?_
                        refine VD.gn rfl rfl (.inl ⟨_, rfl, rfl⟩) ?_
                        refine VD.gn rfl rfl (.inl ⟨_, rfl, rfl⟩) ?_
                        refine VD.gn rfl rfl (.inl ⟨_, rfl, rfl⟩) ?_
                        refine VD.gn rfl rfl (.inl ⟨_, rfl, rfl⟩) ?_
                        refine VD.gn rfl rfl (.inl ⟨_, rfl, rfl⟩) ?_
                        refine VD.gn rfl rfl (.inl ⟨_, rfl, rfl⟩) ?_
                        refine VD.gn rfl rfl (.inl ⟨_, rfl, rfl⟩) ?_
                        refine VD.gn rfl rfl (.inl ⟨_, rfl, rfl⟩) ?_
                        refine VD.gn rfl rfl (.inl ⟨_, rfl, rfl⟩) ?_
                        refine VD.gn rfl rfl (.inl ⟨_, rfl, rfl⟩) ?_
                        refine VD.nil rfl ?_ rfl
                        refine VO.gN ?_
                        refine VO.gy rfl ⟨_, rfl, rfl⟩ (.pT rfl rfl) ?_
                        refine VO.gy rfl ⟨_, rfl, rfl⟩ (.pT rfl rfl) ?_
                        refine VO.y rfl (.pF rfl rfl) ?_
                        refine VO.k6 0 1 5 19 23 92 ?_
                        refine outN ?_
                        refine VC.condT rfl ?_
                        refine VC.rs ?_
                        refine VO.as ?_
                        refine VO.keep [0] [(0, wm W)] (by kernel_rfl) ?_
                        refine VO.k7 0 1 4 5 19 23 92 ?_
                        refine VC.ret ?_
                        refine outBR ?_
                        refine outR ?_
                        refine outR ?_
                        refine outBR ?_
                        refine outR ?_
                        refine ⟨_, _, res_run (rs := [.tmp 4]) rfl (.tmp rfl .nil), fun W_ hI => out_of (l := []) hI [] rfl rfl (mle_refl _) (fun hS_ => ?_)⟩
                        dsimp only [packV]
                        all_goals (first | rfl | (congr 1; first | exact (sCheck_arg (by omega)).symm | exact (sCheck_len ‹¬ decide _ = decide _›).symm | exact (bad8 hs hp ‹d0[k]? = some _› (by first | omega | exact .inr (.inr (.inr (.inr ⟨_, by omega, by assumption, by omega⟩))))).symm | exact (sCheck_good (by omega) (by omega) ‹¬ ¬ decide _ = decide _› (hs.2 (by rw [List.drop_of_length_le (by omega)]; trivial))).symm))
                      · -- FFFTFFFTFTF
                        refine VD.y rfl rfl (.inr ⟨_, _, rfl, _, rfl, rfl⟩) (.mv rfl) ?_
                        refine VD.y rfl rfl (.inr ⟨_, _, rfl, _, rfl, rfl⟩) (.mv rfl) ?_
                        refine VD.y rfl rfl (.inr ⟨_, _, rfl, _, rfl, rfl⟩) (.ixI k rfl rfl tsl23 rfl bd) ?_
                        refine VD.y rfl rfl (.inr ⟨_, _, rfl, _, rfl, rfl⟩) (.fa rfl tst57 rfl) ?_
                        refine VD.y rfl rfl (.inr ⟨_, _, rfl, _, rfl, rfl⟩) (.ld1 0 rfl tk3 rfl (hce5.at1 (j := 1) rfl)) ?_
                        refine VD.y rfl rfl (.inr ⟨_, _, rfl, _, rfl, rfl⟩) (.mv rfl) ?_
                        refine VD.y rfl rfl (.inr ⟨_, _, rfl, _, rfl, rfl⟩) (.mv rfl) ?_
                        refine VD.y rfl rfl (.inr ⟨_, _, rfl, _, rfl, rfl⟩) (.sub rfl rfl rfl ⟨bd, bd⟩) ?_
                        refine VD.y rfl rfl (.inr ⟨_, _, rfl, _, rfl, rfl⟩) (.ixI ((((k : Nat) : Int) - 1).toNat) rfl rfl tsl23 bd bd) ?_
                        refine VD.y rfl rfl (.inr ⟨_, _, rfl, _, rfl, rfl⟩) (.fa rfl tst57 rfl) ?_
                        refine VD.y rfl rfl (.inr ⟨_, _, rfl, _, rfl, rfl⟩) (.ld1 0 rfl tk3 rfl (hce16.at1 (j := 1) rfl)) ?_
                        refine VD.nil rfl ?_ rfl
                        refine VO.gy rfl ⟨_, rfl, rfl⟩ (.leq rfl rfl) ?_
                        refine VO.gy rfl ⟨_, rfl, rfl⟩ (.pF rfl rfl) ?_
                        refine VO.gy rfl ⟨_, rfl, rfl⟩ (.pT rfl rfl) ?_
                        refine VO.y rfl (.pF rfl rfl) ?_
                        refine VO.k6 0 1 5 19 23 92 ?_
                        refine outN ?_
                        refine VC.cond rfl (fun hc20 => ?_) (fun hc20 => ?_)
                        · -- FFFTFFFTFTFT
                          refine VC.rs ?_
                          refine VO.as ?_
                          refine VO.keep [0] [(0, wm W)] (by kernel_rfl) ?_
                          refine VO.k7 0 1 4 5 19 23 92 ?_
                          refine VC.ret ?_
                          refine outBR ?_
                          refine outR ?_
                          refine outR ?_
                          refine outBR ?_
                          refine outR ?_
                          refine ⟨_, _, res_run (rs := [.tmp 4]) rfl (.tmp rfl .nil), fun W_ hI => out_of (l := []) hI [] rfl rfl (mle_refl _) (fun hS_ => ?_)⟩
                          dsimp only [packV]
                          all_goals (first | rfl | (congr 1; first | exact (sCheck_arg (by omega)).symm | exact (sCheck_len ‹¬ decide _ = decide _›).symm | exact (bad8 hs hp ‹d0[k]? = some _› (by first | omega | exact .inr (.inr (.inr (.inr ⟨_, by omega, by assumption, by omega⟩))))).symm | exact (sCheck_good (by omega) (by omega) ‹¬ ¬ decide _ = decide _› (hs.2 (by rw [List.drop_of_length_le (by omega)]; trivial))).symm))
                        · -- FFFTFFFTFTFF
                          refine VC.skip ?_
                          refine outBN ?_
                          refine outN ?_
                          refine VC.reg ?_
                          refine VO.mv ?_
                          refine VO.y rfl (.add (c := ((k + 1 : Nat) : Int)) rfl rfl (by omega) ⟨bd, bd⟩) ?_
                          refine VO.as ?_
                          refine VO.keep [0] [(0, wm W)] (by kernel_rfl) ?_
                          refine VO.k6 0 1 5 19 23 92 ?_
                          exact outN ⟨k + 1, ⟨by omega, by (rw [prevS_next ‹d0[k]? = some _›]; omega), by exact hs.trans (step8 ‹d0[k]? = some _› (by omega) (by omega) (by omega) (by omega) (by first | (intro h_; exfalso; omega) | exact fun _ => ⟨_, by assumption, by omega, by omega⟩))⟩, bd, ⟨⟨rfl, rfl, rfl, rfl, trivial⟩, fun _ h => Inv.sub h [0]⟩⟩
                    · -- FFFTFFFTFF
                      refine VD.gn rfl rfl (.inl ⟨_, rfl, rfl⟩) ?_
                      refine VD.gn rfl rfl (.inl ⟨_, rfl, rfl⟩) ?_
                      refine VD.gn rfl rfl (.inl ⟨_, rfl, rfl⟩) ?_
                      refine VD.gn rfl rfl (.inl ⟨_, rfl, rfl⟩) ?_
                      refine VD.gn rfl rfl (.inl ⟨_, rfl, rfl⟩) ?_
                      refine VD.gn rfl rfl (.inl ⟨_, rfl, rfl⟩) ?_
                      refine VD.gn rfl rfl (.inl ⟨_, rfl, rfl⟩) ?_
                      refine VD.gn rfl rfl (.inl ⟨_, rfl, rfl⟩) ?_
                      refine VD.gn rfl rfl (.inl ⟨_, rfl, rfl⟩) ?_
                      refine VD.gn rfl rfl (.inl ⟨_, rfl, rfl⟩) ?_
                      refine VD.gn rfl rfl (.inl ⟨_, rfl, rfl⟩) ?_
                      refine VD.gn rfl rfl (.inl ⟨_, rfl, rfl⟩) ?_
                      refine VD.gn rfl rfl (.inl ⟨_, rfl, rfl⟩) ?_
                      refine VD.gn rfl rfl (.inr ⟨_, rfl, rfl⟩) ?_
                      refine VD.gn rfl rfl (.inr ⟨_, rfl, rfl⟩) ?_
                      refine VD.gn rfl rfl (.inr ⟨_, rfl, rfl⟩) ?_
                      refine VD.gn rfl rfl (.inr ⟨_, rfl, rfl⟩) ?_
                      refine VD.gn rfl rfl (.inr ⟨_, rfl, rfl⟩) ?_
                      refine VD.gn rfl rfl (.inr ⟨_, rfl, rfl⟩) ?_
                      refine VD.gn rfl rfl (.inr ⟨_, rfl, rfl⟩) ?_
                      refine VD.gn rfl rfl (.inr ⟨_, rfl, rfl⟩) ?_
                      refine VD.gn rfl rfl (.inr ⟨_, rfl, rfl⟩) ?_
                      refine VD.gn rfl rfl (.inr ⟨_, rfl, rfl⟩) ?_
                      refine VD.gn rfl rfl (.inr ⟨_, rfl, rfl⟩) ?_
                      refine VD.nil rfl ?_ rfl
                      refine VO.gn rfl (.inr ⟨_, rfl, rfl⟩) ?_
                      refine VO.gN ?_
                      refine VO.gy rfl ⟨_, rfl, rfl⟩ (.pF rfl rfl) ?_
                      refine VO.y rfl (.pF rfl rfl) ?_
                      refine VO.k6 0 1 5 19 23 92 ?_
                      refine outN ?_
                      refine VC.condF rfl ?_
                      refine VC.skip ?_
                      refine outBN ?_
                      refine outN ?_
                      refine VC.reg ?_
                      refine VO.mv ?_
                      refine VO.y rfl (.add (c := ((k + 1 : Nat) : Int)) rfl rfl (by omega) ⟨bd, bd⟩) ?_
                      refine VO.as ?_
                      refine VO.keep [0] [(0, wm W)] (by kernel_rfl) ?_
                      refine VO.k6 0 1 5 19 23 92 ?_
                      exact outN ⟨k + 1, ⟨by omega, by (rw [prevS_next ‹d0[k]? = some _›]; omega), by exact hs.trans (step8 ‹d0[k]? = some _› (by omega) (by omega) (by omega) (by omega) (by first | (intro h_; exfalso; omega) | exact fun _ => ⟨_, by assumption, by omega, by omega⟩))⟩, bd, ⟨⟨rfl, rfl, rfl, rfl, trivial⟩, fun _ h => Inv.sub h [0]⟩⟩
                · -- FFFTFFFF
                  refine VD.gn rfl rfl (.inl ⟨_, rfl, rfl⟩) ?_
                  refine VD.gn rfl rfl (.inl ⟨_, rfl, rfl⟩) ?_
                  refine VD.gn rfl rfl (.inl ⟨_, rfl, rfl⟩) ?_
                  refine VD.gn rfl rfl (.inl ⟨_, rfl, rfl⟩) ?_
                  refine VD.gn rfl rfl (.inl ⟨_, rfl, rfl⟩) ?_
                  refine VD.gn rfl rfl (.inl ⟨_, rfl, rfl⟩) ?_
                  refine VD.y rfl rfl (.inr ⟨_, _, rfl, _, rfl, rfl⟩) (.pF rfl rfl) ?_
                  refine VD.y rfl rfl (.inl rfl) (.pF rfl rfl) ?_
                  refine VD.y rfl rfl (.inl rfl) (.mv rfl) ?_
                  refine VD.y rfl rfl (.inr ⟨_, _, rfl, _, rfl, rfl⟩) (.mv rfl) ?_
                  refine VD.y rfl rfl (.inr ⟨_, _, rfl, _, rfl, rfl⟩) (.gtr rfl rfl) ?_
                  refine VD.y rfl rfl (.inr ⟨_, _, rfl, _, rfl, rfl⟩) (.mv rfl) ?_
                  refine VD.dec (s := 64) rfl (fun hc21 => ?_) (fun hc21 => ?_)
                  · -- FFFTFFFFT
                    refine VD.y rfl rfl (.inr ⟨_, _, rfl, _, rfl, rfl⟩) (.mv rfl) ?_
                    refine VD.y rfl rfl (.inr ⟨_, _, rfl, _, rfl, rfl⟩) (.mv rfl) ?_
                    refine VD.y rfl rfl (.inr ⟨_, _, rfl, _, rfl, rfl⟩) (.ixI k rfl rfl tsl23 rfl bd) ?_
                    refine VD.y rfl rfl (.inr ⟨_, _, rfl, _, rfl, rfl⟩) (.fa rfl tst57 rfl) ?_
                    refine VD.y rfl rfl (.inr ⟨_, _, rfl, _, rfl, rfl⟩) (.ld1 0 rfl tk3 rfl (hce5.at1 (j := 0) rfl)) ?_
                    refine VD.y rfl rfl (.inr ⟨_, _, rfl, _, rfl, rfl⟩) (.mv rfl) ?_
                    refine VD.y rfl rfl (.inr ⟨_, _, rfl, _, rfl, rfl⟩) (.mv rfl) ?_
                    refine VD.y rfl rfl (.inr ⟨_, _, rfl, _, rfl, rfl⟩) (.sub rfl rfl rfl ⟨bd, bd⟩) ?_
                    obtain ⟨x23, hx23⟩ : ∃ z_, (d0)[(((k : Nat) : Int) - 1).toNat]? = some z_ := ⟨_, List.getElem?_eq_getElem bd⟩
                    obtain ⟨gg23, oo23, ec23, ea23, hce23, hre23⟩ := h0.elem hx23
                    cases ea23
                    obtain ⟨rfl, q23_0, q23_1⟩ := open_Start (x0 := x23.1) (x1 := x23.2) hre23
                    simp only [inK] at q23_0
                    simp only [inK] at q23_1
                    refine VD.y rfl rfl (.inr ⟨_, _, rfl, _, rfl, rfl⟩) (.ixI ((((k : Nat) : Int) - 1).toNat) rfl rfl tsl23 bd bd) ?_
                    refine VD.y rfl rfl (.inr ⟨_, _, rfl, _, rfl, rfl⟩) (.fa rfl tst57 rfl) ?_
                    refine VD.y rfl rfl (.inr ⟨_, _, rfl, _, rfl, rfl⟩) (.ld1 0 rfl tk3 rfl (hce23.at1 (j := 0) rfl)) ?_
                    refine VD.y rfl rfl (.inr ⟨_, _, rfl, _, rfl, rfl⟩) (.leq rfl rfl) ?_
                    refine VD.y rfl rfl (.inr ⟨_, _, rfl, _, rfl, rfl⟩) (.mv rfl) ?_
                    refine VD.dec (s := 77) rfl (fun hc24 => ?_) (fun hc24 => ?_)
                    · -- FFFTFFFFTT
                      refine VD.gn rfl rfl (.inl ⟨_, rfl, rfl⟩) ?_
                      refine VD.gn rfl rfl (.inl ⟨_, rfl, rfl⟩) ?_
                      refine VD.gn rfl rfl (.inl ⟨_, rfl, rfl⟩) ?_
                      refine VD.gn rfl rfl (.inl ⟨_, rfl, rfl⟩) ?_
                      refine VD.gn rfl rfl (.inl ⟨_, rfl, rfl⟩) ?_
                      refine VD.gn rfl rfl (.inl ⟨_, rfl, rfl⟩) ?_
                      refine VD.gn rfl rfl (.inl ⟨_, rfl, rfl⟩) ?_
                      refine VD.gn rfl rfl (.inl ⟨_, rfl, rfl⟩) ?_
                      refine VD.gn rfl rfl (.inl ⟨_, rfl, rfl⟩) ?_
                      refine VD.gn rfl rfl (.inl ⟨_, rfl, rfl⟩) ?_
                      refine VD.gn rfl rfl (.inl ⟨_, rfl, rfl⟩) ?_
                      refine VD.nil rfl ?_ rfl
                      refine VO.gN ?_
                      refine VO.gy rfl ⟨_, rfl, rfl⟩ (.pT rfl rfl) ?_
                      refine VO.gy rfl ⟨_, rfl, rfl⟩ (.pT rfl rfl) ?_
                      refine VO.y rfl (.pF rfl rfl) ?_
                      refine VO.k6 0 1 5 19 23 92 ?_
                      refine outN ?_
                      refine VC.condT rfl ?_
                      refine VC.rs ?_
                      refine VO.as ?_
                      refine VO.keep [0] [(0, wm W)] (by kernel_rfl) ?_
                      refine VO.k7 0 1 4 5 19 23 92 ?_
                      refine VC.ret ?_
                      refine outBR ?_
                      refine outR ?_
                      refine outR ?_
                      refine outBR ?_
                      refine outR ?_
                      refine ⟨_, _, res_run (rs := [.tmp 4]) rfl (.tmp rfl .nil), fun W_ hI => out_of (l := []) hI [] rfl rfl (mle_refl _) (fun hS_ => ?_)⟩
                      dsimp only [packV]
                      all_goals (first | rfl | (congr 1; first | exact (sCheck_arg (by omega)).symm | exact (sCheck_len ‹¬ decide _ = decide _›).symm | exact (bad8 hs hp ‹d0[k]? = some _› (by first | omega | exact .inr (.inr (.inr (.inr ⟨_, by omega, by assumption, by omega⟩))))).symm | exact (sCheck_good (by omega) (by omega) ‹¬ ¬ decide _ = decide _› (hs.2 (by rw [List.drop_of_length_le (by omega)]; trivial))).symm))
                    · -- FFFTFFFFTF
                      refine VD.y rfl rfl (.inr ⟨_, _, rfl, _, rfl, rfl⟩) (.mv rfl) ?_
                      refine VD.y rfl rfl (.inr ⟨_, _, rfl, _, rfl, rfl⟩) (.mv rfl) ?_
                      refine VD.y rfl rfl (.inr ⟨_, _, rfl, _, rfl, rfl⟩) (.ixI k rfl rfl tsl23 rfl bd) ?_
                      refine VD.y rfl rfl (.inr ⟨_, _, rfl, _, rfl, rfl⟩) (.fa rfl tst57 rfl) ?_
                      refine VD.y rfl rfl (.inr ⟨_, _, rfl, _, rfl, rfl⟩) (.ld1 0 rfl tk3 rfl (hce5.at1 (j := 1) rfl)) ?_
                      refine VD.y rfl rfl (.inr ⟨_, _, rfl, _, rfl, rfl⟩) (.mv rfl) ?_
                      refine VD.y rfl rfl (.inr ⟨_, _, rfl, _, rfl, rfl⟩) (.mv rfl) ?_
                      refine VD.y rfl rfl (.inr ⟨_, _, rfl, _, rfl, rfl⟩) (.sub rfl rfl rfl ⟨bd, bd⟩) ?_
                      refine VD.y rfl rfl (.inr ⟨_, _, rfl, _, rfl, rfl⟩) (.ixI ((((k : Nat) : Int) - 1).toNat) rfl rfl tsl23 bd bd) ?_
                      refine VD.y rfl rfl (.inr ⟨_, _, rfl, _, rfl, rfl⟩) (.fa rfl tst57 rfl) ?_
                      refine VD.y rfl rfl (.inr ⟨_, _, rfl, _, rfl, rfl⟩) (.ld1 0 rfl tk3 rfl (hce23.at1 (j := 1) rfl)) ?_
                      refine VD.nil rfl ?_ rfl
                      refine VO.gy rfl ⟨_, rfl, rfl⟩ (.leq rfl rfl) ?_
                      refine VO.gy rfl ⟨_, rfl, rfl⟩ (.pF rfl rfl) ?_
                      refine VO.gy rfl ⟨_, rfl, rfl⟩ (.pT rfl rfl) ?_
                      refine VO.y rfl (.pF rfl rfl) ?_
                      refine VO.k6 0 1 5 19 23 92 ?_
                      refine outN ?_
                      refine VC.cond rfl (fun hc27 => ?_) (fun hc27 => ?_)
                      · -- FFFTFFFFTFT
                        refine VC.rs ?_
                        refine VO.as ?_
                        refine VO.keep [0] [(0, wm W)] (by kernel_rfl) ?_
                        refine VO.k7 0 1 4 5 19 23 92 ?_
                        refine VC.ret ?_
                        refine outBR ?_
                        refine outR ?_
                        refine outR ?_
                        refine outBR ?_
                        refine outR ?_
                        refine ⟨_, _, res_run (rs := [.tmp 4]) rfl (.tmp rfl .nil), fun W_ hI => out_of (l := []) hI [] rfl rfl (mle_refl _) (fun hS_ => ?_)⟩
                        dsimp only [packV]
                        all_goals (first | rfl | (congr 1; first | exact (sCheck_arg (by omega)).symm | exact (sCheck_len ‹¬ decide _ = decide _›).symm | exact (bad8 hs hp ‹d0[k]? = some _› (by first | omega | exact .inr (.inr (.inr (.inr ⟨_, by omega, by assumption, by omega⟩))))).symm | exact (sCheck_good (by omega) (by omega) ‹¬ ¬ decide _ = decide _› (hs.2 (by rw [List.drop_of_length_le (by omega)]; trivial))).symm))
                      · -- FFFTFFFFTFF
                        refine VC.skip ?_
                        refine outBN ?_
                        refine outN ?_
                        refine VC.reg ?_
                        refine VO.mv ?_
                        refine VO.y rfl (.add (c := ((k + 1 : Nat) : Int)) rfl rfl (by omega) ⟨bd, bd⟩) ?_
                        refine VO.as ?_
                        refine VO.keep [0] [(0, wm W)] (by kernel_rfl) ?_
                        refine VO.k6 0 1 5 19 23 92 ?_
                        exact outN ⟨k + 1, ⟨by omega, by (rw [prevS_next ‹d0[k]? = some _›]; omega), by exact hs.trans (step8 ‹d0[k]? = some _› (by omega) (by omega) (by omega) (by omega) (by first | (intro h_; exfalso; omega) | exact fun _ => ⟨_, by assumption, by omega, by omega⟩))⟩, bd, ⟨⟨rfl, rfl, rfl, rfl, trivial⟩, fun _ h => Inv.sub h [0]⟩⟩
                  · -- FFFTFFFFF
                    refine VD.gn rfl rfl (.inl ⟨_, rfl, rfl⟩) ?_
                    refine VD.gn rfl rfl (.inl ⟨_, rfl, rfl⟩) ?_
                    refine VD.gn rfl rfl (.inl ⟨_, rfl, rfl⟩) ?_
                    refine VD.gn rfl rfl (.inl ⟨_, rfl, rfl⟩) ?_
                    refine VD.gn rfl rfl (.inl ⟨_, rfl, rfl⟩) ?_
                    refine VD.gn rfl rfl (.inl ⟨_, rfl, rfl⟩) ?_
                    refine VD.gn rfl rfl (.inl ⟨_, rfl, rfl⟩) ?_
                    refine VD.gn rfl rfl (.inl ⟨_, rfl, rfl⟩) ?_
                    refine VD.gn rfl rfl (.inl ⟨_, rfl, rfl⟩) ?_
                    refine VD.gn rfl rfl (.inl ⟨_, rfl, rfl⟩) ?_
                    refine VD.gn rfl rfl (.inl ⟨_, rfl, rfl⟩) ?_
                    refine VD.gn rfl rfl (.inl ⟨_, rfl, rfl⟩) ?_
                    refine VD.gn rfl rfl (.inl ⟨_, rfl, rfl⟩) ?_
                    refine VD.gn rfl rfl (.inr ⟨_, rfl, rfl⟩) ?_
                    refine VD.gn rfl rfl (.inr ⟨_, rfl, rfl⟩) ?_
                    refine VD.gn rfl rfl (.inr ⟨_, rfl, rfl⟩) ?_
                    refine VD.gn rfl rfl (.inr ⟨_, rfl, rfl⟩) ?_
                    refine VD.gn rfl rfl (.inr ⟨_, rfl, rfl⟩) ?_
                    refine VD.gn rfl rfl (.inr ⟨_, rfl, rfl⟩) ?_
                    refine VD.gn rfl rfl (.inr ⟨_, rfl, rfl⟩) ?_
                    refine VD.gn rfl rfl (.inr ⟨_, rfl, rfl⟩) ?_
                    refine VD.gn rfl rfl (.inr ⟨_, rfl, rfl⟩) ?_
                    refine VD.gn rfl rfl (.inr ⟨_, rfl, rfl⟩) ?_
                    refine VD.gn rfl rfl (.inr ⟨_, rfl, rfl⟩) ?_
                    refine VD.nil rfl ?_ rfl
                    refine VO.gn rfl (.inr ⟨_, rfl, rfl⟩) ?_
                    refine VO.gN ?_
                    refine VO.gy rfl ⟨_, rfl, rfl⟩ (.pF rfl rfl) ?_
                    refine VO.y rfl (.pF rfl rfl) ?_
                    refine VO.k6 0 1 5 19 23 92 ?_
                    refine outN ?_
                    refine VC.condF rfl ?_
                    refine VC.skip ?_
                    refine outBN ?_
                    refine outN ?_
                    refine VC.reg ?_
                    refine VO.mv ?_
                    refine VO.y rfl (.add (c := ((k + 1 : Nat) : Int)) rfl rfl (by omega) ⟨bd, bd⟩) ?_
                    refine VO.as ?_
                    refine VO.keep [0] [(0, wm W)] (by kernel_rfl) ?_
                    refine VO.k6 0 1 5 19 23 92 ?_
                    exact outN ⟨k + 1, ⟨by omega, by (rw [prevS_next ‹d0[k]? = some _›]; omega), by exact hs.trans (step8 ‹d0[k]? = some _› (by omega) (by omega) (by omega) (by omega) (by first | (intro h_; exfalso; omega) | exact fun _ => ⟨_, by assumption, by omega, by omega⟩))⟩, bd, ⟨⟨rfl, rfl, rfl, rfl, trivial⟩, fun _ h => Inv.sub h [0]⟩⟩
        · -- FFFF
          refine VC.exit ?_
          refine outE ?_
          refine outE ?_
          refine outBB ?_
          refine outN ?_
          refine VC.rs ?_
          refine VO.as ?_
          refine VO.k6 0 1 4 5 19 23 ?_
          refine VC.ret ?_
          refine ⟨_, _, res_run (rs := [.tmp 4]) rfl (.tmp rfl .nil), fun W_ hI => out_of (l := []) hI [] rfl rfl (mle_refl _) (fun hS_ => ?_)⟩
          dsimp only [packV]
          all_goals (first | rfl | (congr 1; first | exact (sCheck_arg (by omega)).symm | exact (sCheck_len ‹¬ decide _ = decide _›).symm | exact (bad8 hs hp ‹d0[k]? = some _› (by first | omega | exact .inr (.inr (.inr (.inr ⟨_, by omega, by assumption, by omega⟩))))).symm | exact (sCheck_good (by omega) (by omega) ‹¬ ¬ decide _ = decide _› (hs.2 (by rw [List.drop_of_length_le (by omega)]; trivial))).symm))
theorem hello11_ok (W : World) {v0 : List Value} {d0 : DMessage} (h0 : Rd TMessage (wm W) v0 d0) : CallR Try.prog 40 [.agg v0.toArray] W (mnil) (fun v m' => v = .bool (decide (helloM d0))) := by
  obtain ⟨p0_A4, p0_c4, p0_A7, p0_c7, rfl, p0_0, p0_1, p0_2, p0_3, p0_4, p0_5, p0_6, p0_7⟩ := open_Message (x0 := d0.1) (x1 := d0.2.1) (x2 := d0.2.2.1) (x3 := d0.2.2.2.1) (x4 := d0.2.2.2.2.1) (x5 := d0.2.2.2.2.2.1) (x6 := d0.2.2.2.2.2.2.1) (x7 := d0.2.2.2.2.2.2.2) h0
  simp only [inK] at p0_0
  simp only [inK] at p0_1
  simp only [inK] at p0_2
  simp only [inK] at p0_3
  have p0_r4 := Rd.room p0_4
  simp only [inK] at p0_5
  simp only [inK] at p0_6
  have p0_r7 := Rd.room p0_7
  refine CallR.ofA (n := 45) Try.func40 rfl rfl rfl ?_
  refine VC.rs ?_
  refine VO.box (cs := [Value.int .i64 (d0.1), Value.int .i64 (d0.2.1), Value.int .u8 (d0.2.2.1), Value.int .i64 (d0.2.2.2.1), Value.slice p0_A4 (d0.2.2.2.2.1.length) (p0_c4), Value.int .i64 (d0.2.2.2.2.2.1), Value.int .i64 (d0.2.2.2.2.2.2.1), Value.slice p0_A7 (d0.2.2.2.2.2.2.2.length) (p0_c7)]) 102 rfl rfl rfl (fun g1 => ?_)
  refine VO.as ?_
  refine VO.k3 0 1 2 ?_
  refine VC.seq ?_
  refine VC.rs ?_
  refine VO.y rfl (.fa rfl tst26 rfl) ?_
  refine VO.y rfl (.ld1 102 rfl tk22 rfl (cellsAt_one rfl rfl)) ?_
  refine VO.y rfl (.lss rfl rfl) ?_
  refine VO.mv ?_
  refine VO.dec (t := 7) rfl (fun hc3 => ?_) (fun hc3 => ?_)
  · -- T
    refine VO.gN ?_
    refine VO.gN ?_
    refine VO.gN ?_
    refine VO.y rfl (.pT rfl rfl) ?_
    refine VO.mv ?_
    refine VO.gN ?_
    refine VO.gN ?_
    refine VO.gN ?_
    refine VO.gN ?_
    refine VO.gN ?_
    refine VO.gN ?_
    refine VO.y rfl (.pT rfl rfl) ?_
    refine VO.k4 0 1 2 19 ?_
    refine VC.condT rfl ?_
    refine VC.rs ?_
    refine VO.as ?_
    refine VO.keep [102, 0] [(102, mone g1 (.cells [Value.int .i64 (d0.1), Value.int .i64 (d0.2.1), Value.int .u8 (d0.2.2.1), Value.int .i64 (d0.2.2.2.1), Value.slice p0_A4 (d0.2.2.2.2.1.length) (p0_c4), Value.int .i64 (d0.2.2.2.2.2.1), Value.int .i64 (d0.2.2.2.2.2.2.1), Value.slice p0_A7 (d0.2.2.2.2.2.2.2.length) (p0_c7)].toArray 26 (0, 0))), (0, wm W)] (by kernel_rfl) ?_
    refine VO.k4 0 1 2 19 ?_
    refine VC.ret ?_
    refine outR ?_
    refine ⟨_, _, res_run (rs := [.tmp 2]) rfl (.tmp rfl .nil), fun W_ hI => out_of (l := []) hI [] rfl rfl (mle_refl _) (fun hS_ => ?_)⟩
    dsimp only [packV]
    all_goals (first | rfl | (first | exact congrArg Value.bool (decide_eq_false (by unfold helloM; omega)).symm | exact congrArg Value.bool (decide_eq_false (hello_last (by assumption) (by omega) (by omega))).symm | exact congrArg Value.bool (decide_eq_decide.2 (hello_iff ⟨by omega, by omega⟩ (by omega) (lastOk_good (by assumption) (by omega) (by omega)))) | exact congrArg Value.bool (decide_eq_decide.2 (hello_iff ⟨by omega, by omega⟩ (by omega) (lastOk_nil (by omega))))))
  · -- F
    refine VO.gy rfl ⟨_, rfl, rfl⟩ (.fa rfl tst26 rfl) ?_
    refine VO.gy rfl ⟨_, rfl, rfl⟩ (.ld1 102 rfl tk22 rfl (cellsAt_one rfl rfl)) ?_
    refine VO.gy rfl ⟨_, rfl, rfl⟩ (.gtr rfl rfl) ?_
    refine VO.y rfl (.pF rfl rfl) ?_
    refine VO.mv ?_
    refine VO.dec (t := 12) rfl (fun hc4 => ?_) (fun hc4 => ?_)
    · -- FT
      refine VO.gN ?_
      refine VO.gN ?_
      refine VO.gN ?_
      refine VO.gN ?_
      refine VO.gN ?_
      refine VO.gN ?_
      refine VO.y rfl (.pT rfl rfl) ?_
      refine VO.k4 0 1 2 19 ?_
      refine VC.condT rfl ?_
      refine VC.rs ?_
      refine VO.as ?_
      refine VO.keep [102, 0] [(102, mone g1 (.cells [Value.int .i64 (d0.1), Value.int .i64 (d0.2.1), Value.int .u8 (d0.2.2.1), Value.int .i64 (d0.2.2.2.1), Value.slice p0_A4 (d0.2.2.2.2.1.length) (p0_c4), Value.int .i64 (d0.2.2.2.2.2.1), Value.int .i64 (d0.2.2.2.2.2.2.1), Value.slice p0_A7 (d0.2.2.2.2.2.2.2.length) (p0_c7)].toArray 26 (0, 0))), (0, wm W)] (by kernel_rfl) ?_
      refine VO.k4 0 1 2 19 ?_
      refine VC.ret ?_
      refine outR ?_
      refine ⟨_, _, res_run (rs := [.tmp 2]) rfl (.tmp rfl .nil), fun W_ hI => out_of (l := []) hI [] rfl rfl (mle_refl _) (fun hS_ => ?_)⟩
      dsimp only [packV]
      all_goals (first | rfl | (first | exact congrArg Value.bool (decide_eq_false (by unfold helloM; omega)).symm | exact congrArg Value.bool (decide_eq_false (hello_last (by assumption) (by omega) (by omega))).symm | exact congrArg Value.bool (decide_eq_decide.2 (hello_iff ⟨by omega, by omega⟩ (by omega) (lastOk_good (by assumption) (by omega) (by omega)))) | exact congrArg Value.bool (decide_eq_decide.2 (hello_iff ⟨by omega, by omega⟩ (by omega) (lastOk_nil (by omega))))))
    · -- FF
      refine VO.gy rfl ⟨_, rfl, rfl⟩ (.fa rfl tst26 rfl) ?_
      refine VO.gy rfl ⟨_, rfl, rfl⟩ (.ld1 102 rfl tk23 rfl (cellsAt_one rfl rfl)) ?_
      refine VO.gy rfl ⟨_, rfl, rfl⟩ (.fa rfl tst26 rfl) ?_
      refine VO.gy rfl ⟨_, rfl, rfl⟩ (.ld1 102 rfl tk3 rfl (cellsAt_one rfl rfl)) ?_
      refine VO.gcallN 105 rfl ⟨_, rfl, rfl⟩ fnOk72 rfl (fun W hW => sCheck8_ok W (Rd.mono p0_4 (hW.at (i := 0) rfl)) d0.2.2.2.1 bdk) (fun v5 m5 hv5 => ?_)
      subst hv5
      have hfa6 := sCheck_range d0.2.2.2.2.1 d0.2.2.2.1
      refine VO.gy rfl ⟨_, rfl, rfl⟩ (.neq rfl rfl) ?_
      refine VO.y rfl (.pF rfl rfl) ?_
      refine VO.k4 0 1 2 19 ?_
      refine VC.cond rfl (fun hc7 => ?_) (fun hc7 => ?_)
      · -- FFT
        refine VC.rs ?_
        refine VO.as ?_
        refine VO.keep [102, 0] [(102, mone g1 (.cells [Value.int .i64 (d0.1), Value.int .i64 (d0.2.1), Value.int .u8 (d0.2.2.1), Value.int .i64 (d0.2.2.2.1), Value.slice p0_A4 (d0.2.2.2.2.1.length) (p0_c4), Value.int .i64 (d0.2.2.2.2.2.1), Value.int .i64 (d0.2.2.2.2.2.2.1), Value.slice p0_A7 (d0.2.2.2.2.2.2.2.length) (p0_c7)].toArray 26 (0, 0))), (0, wm W)] (by kernel_rfl) ?_
        refine VO.k4 0 1 2 19 ?_
        refine VC.ret ?_
        refine outR ?_
        refine ⟨_, _, res_run (rs := [.tmp 2]) rfl (.tmp rfl .nil), fun W_ hI => out_of (l := []) hI [] rfl rfl (mle_refl _) (fun hS_ => ?_)⟩
        dsimp only [packV]
        all_goals (first | rfl | (first | exact congrArg Value.bool (decide_eq_false (by unfold helloM; omega)).symm | exact congrArg Value.bool (decide_eq_false (hello_last (by assumption) (by omega) (by omega))).symm | exact congrArg Value.bool (decide_eq_decide.2 (hello_iff ⟨by omega, by omega⟩ (by omega) (lastOk_good (by assumption) (by omega) (by omega)))) | exact congrArg Value.bool (decide_eq_decide.2 (hello_iff ⟨by omega, by omega⟩ (by omega) (lastOk_nil (by omega))))))
      · -- FFF
        refine VC.skip ?_
        refine outN ?_
        refine VC.rs ?_
        refine VO.y rfl (.fa rfl tst26 rfl) ?_
        refine VO.y rfl (.ld1 102 rfl tk23 rfl (cellsAt_one rfl rfl)) ?_
        refine VO.y rfl (.lenS rfl tsl23) ?_
        refine VO.as ?_
        refine VO.keep [102, 0] [(102, mone g1 (.cells [Value.int .i64 (d0.1), Value.int .i64 (d0.2.1), Value.int .u8 (d0.2.2.1), Value.int .i64 (d0.2.2.2.1), Value.slice p0_A4 (d0.2.2.2.2.1.length) (p0_c4), Value.int .i64 (d0.2.2.2.2.2.1), Value.int .i64 (d0.2.2.2.2.2.2.1), Value.slice p0_A7 (d0.2.2.2.2.2.2.2.length) (p0_c7)].toArray 26 (0, 0))), (0, wm W)] (by kernel_rfl) ?_
        refine VO.k5 0 1 2 3 19 ?_
        refine VC.seq ?_
        refine VC.seq ?_
        refine VC.regD _ 12 [(0, true), (1, true), (2, true), (3, true), (4, true), (5, true), (6, true), (7, true), (8, true), (9, true), (10, true), (11, true)] follows (by kernel_rfl) (fun _ h => h.sub [102, 0]) ?_
        refine VD.y rfl rfl (.inl rfl) (.mv rfl) ?_
        refine VD.y rfl rfl (.inl rfl) (.gtr rfl rfl) ?_
        refine VD.y rfl rfl (.inl rfl) (.mv rfl) ?_
        refine VD.dec (s := 25) rfl (fun hc8 => ?_) (fun hc8 => ?_)
        · -- FFFT
          refine VD.y rfl rfl (.inr ⟨_, _, rfl, _, rfl, rfl⟩) (.fa rfl tst26 rfl) ?_
          refine VD.y rfl rfl (.inr ⟨_, _, rfl, _, rfl, rfl⟩) (.ld1 102 rfl tk23 rfl (cellsAt_one rfl rfl)) ?_
          refine VD.y rfl rfl (.inr ⟨_, _, rfl, _, rfl, rfl⟩) (.mv rfl) ?_
          refine VD.y rfl rfl (.inr ⟨_, _, rfl, _, rfl, rfl⟩) (.sub rfl rfl rfl ⟨bd, bd⟩) ?_
          obtain ⟨x9, hx9⟩ : ∃ z_, (d0.2.2.2.2.1)[(((d0.2.2.2.2.1.length : Nat) : Int) - 1).toNat]? = some z_ := ⟨_, List.getElem?_eq_getElem bd⟩
          obtain ⟨gg9, oo9, ec9, ea9, hce9, hre9⟩ := p0_4.elem hx9
          cases ea9
          obtain ⟨rfl, q9_0, q9_1⟩ := open_Start (x0 := x9.1) (x1 := x9.2) hre9
          simp only [inK] at q9_0
          simp only [inK] at q9_1
          refine VD.y rfl rfl (.inr ⟨_, _, rfl, _, rfl, rfl⟩) (.ixI ((((d0.2.2.2.2.1.length : Nat) : Int) - 1).toNat) rfl rfl tsl23 bd bd) ?_
          refine VD.y rfl rfl (.inr ⟨_, _, rfl, _, rfl, rfl⟩) (.fa rfl tst57 rfl) ?_
          refine VD.y rfl rfl (.inr ⟨_, _, rfl, _, rfl, rfl⟩) (.ld1 0 rfl tk3 rfl (hce9.at1 (j := 0) rfl)) ?_
          refine VD.y rfl rfl (.inr ⟨_, _, rfl, _, rfl, rfl⟩) (.fa rfl tst26 rfl) ?_
          refine VD.y rfl rfl (.inr ⟨_, _, rfl, _, rfl, rfl⟩) (.ld1 102 rfl tk3 rfl (cellsAt_one rfl rfl)) ?_
          refine VD.nil rfl ?_ rfl
          refine VO.gy rfl ⟨_, rfl, rfl⟩ (.gtr rfl rfl) ?_
          refine VO.y rfl (.pT rfl rfl) ?_
          refine VO.k6 0 1 2 3 19 36 ?_
          refine outN ?_
          refine VC.cond rfl (fun hc10 => ?_) (fun hc10 => ?_)
          · -- FFFTT
            refine VC.rs ?_
            refine VO.as ?_
            refine VO.k6 0 1 2 3 19 36 ?_
            refine VC.ret ?_
            refine outR ?_
            refine ⟨_, _, res_run (rs := [.tmp 2]) rfl (.tmp rfl .nil), fun W_ hI => out_of (l := []) hI [] rfl rfl (mle_refl _) (fun hS_ => ?_)⟩
            dsimp only [packV]
            all_goals (first | rfl | (first | exact congrArg Value.bool (decide_eq_false (by unfold helloM; omega)).symm | exact congrArg Value.bool (decide_eq_false (hello_last (by assumption) (by omega) (by omega))).symm | exact congrArg Value.bool (decide_eq_decide.2 (hello_iff ⟨by omega, by omega⟩ (by omega) (lastOk_good (by assumption) (by omega) (by omega)))) | exact congrArg Value.bool (decide_eq_decide.2 (hello_iff ⟨by omega, by omega⟩ (by omega) (lastOk_nil (by omega))))))
          · -- FFFTF
            refine VC.skip ?_
            refine outN ?_
            refine VC.rs ?_
            refine VO.y rfl (.fa rfl tst26 rfl) ?_
            refine VO.y rfl (.ld1 102 rfl tk3 rfl (cellsAt_one rfl rfl)) ?_
            refine VO.y rfl (.fa rfl tst26 rfl) ?_
            refine VO.y rfl (.ld1 102 rfl tk3 rfl (cellsAt_one rfl rfl)) ?_
            refine VO.y rfl (.fa rfl tst26 rfl) ?_
            refine VO.y rfl (.ld1 102 rfl tk24 rfl (cellsAt_one rfl rfl)) ?_
            refine VO.y rfl (.bst (cs := [Value.int .i64 (0), Value.int .i64 (0), Value.int .u8 (0), Value.int .i64 (0), Value.slice none (0) (0), Value.int .i64 (d0.2.2.2.2.2.1), Value.int .i64 (d0.2.2.2.2.2.2.1), Value.slice p0_A7 (d0.2.2.2.2.2.2.2.length) (p0_c7)]) rfl tst26 tz26 rfl) ?_
            refine VO.callN 111 rfl fnOk42 rfl (fun W hW => plain11_ok W (mk_Message (m := wm W) 0 0 0 0 [] d0.2.2.2.2.2.1 d0.2.2.2.2.2.2.1 d0.2.2.2.2.2.2.2 bdk bdk bdk bdk (Rd.nil _ _ none 0 (Nat.zero_le _)) bdk bdk (Rd.mono p0_7 (hW.at (i := 0) rfl)))) (fun v11 m11 hv11 => ?_)
            try dsimp only at hv11
            subst hv11
            refine VO.as ?_
            refine VO.k6 0 1 2 3 19 36 ?_
            refine VC.ret ?_
            refine ⟨_, _, res_run (rs := [.tmp 2]) rfl (.tmp rfl .nil), fun W_ hI => out_of (l := []) hI [] rfl rfl (mle_refl _) (fun hS_ => ?_)⟩
            dsimp only [packV]
            all_goals (first | rfl | (first | exact congrArg Value.bool (decide_eq_false (by unfold helloM; omega)).symm | exact congrArg Value.bool (decide_eq_false (hello_last (by assumption) (by omega) (by omega))).symm | exact congrArg Value.bool (decide_eq_decide.2 (hello_iff ⟨by omega, by omega⟩ (by omega) (lastOk_good (by assumption) (by omega) (by omega)))) | exact congrArg Value.bool (decide_eq_decide.2 (hello_iff ⟨by omega, by omega⟩ (by omega) (lastOk_nil (by omega))))))
        · -- FFFF
          refine VD.gn rfl rfl (.inl ⟨_, rfl, rfl⟩) ?_
          refine VD.gn rfl rfl (.inl ⟨_, rfl, rfl⟩) ?_
          refine VD.gn rfl rfl (.inl ⟨_, rfl, rfl⟩) ?_
          refine VD.gn rfl rfl (.inl ⟨_, rfl, rfl⟩) ?_
          refine VD.gn rfl rfl (.inl ⟨_, rfl, rfl⟩) ?_
          refine VD.gn rfl rfl (.inl ⟨_, rfl, rfl⟩) ?_
          refine VD.gn rfl rfl (.inl ⟨_, rfl, rfl⟩) ?_
          refine VD.gn rfl rfl (.inl ⟨_, rfl, rfl⟩) ?_
          refine VD.gn rfl rfl (.inl ⟨_, rfl, rfl⟩) ?_
          refine VD.nil rfl ?_ rfl
          refine VO.gN ?_
          refine VO.y rfl (.pF rfl rfl) ?_
          refine VO.k6 0 1 2 3 19 36 ?_
          refine outN ?_
          refine VC.condF rfl ?_
          refine VC.skip ?_
          refine outN ?_
          refine VC.rs ?_
          refine VO.y rfl (.fa rfl tst26 rfl) ?_
          refine VO.y rfl (.ld1 102 rfl tk3 rfl (cellsAt_one rfl rfl)) ?_
          refine VO.y rfl (.fa rfl tst26 rfl) ?_
          refine VO.y rfl (.ld1 102 rfl tk3 rfl (cellsAt_one rfl rfl)) ?_
          refine VO.y rfl (.fa rfl tst26 rfl) ?_
          refine VO.y rfl (.ld1 102 rfl tk24 rfl (cellsAt_one rfl rfl)) ?_
          refine VO.y rfl (.bst (cs := [Value.int .i64 (0), Value.int .i64 (0), Value.int .u8 (0), Value.int .i64 (0), Value.slice none (0) (0), Value.int .i64 (d0.2.2.2.2.2.1), Value.int .i64 (d0.2.2.2.2.2.2.1), Value.slice p0_A7 (d0.2.2.2.2.2.2.2.length) (p0_c7)]) rfl tst26 tz26 rfl) ?_
          refine VO.callN 112 rfl fnOk42 rfl (fun W hW => plain11_ok W (mk_Message (m := wm W) 0 0 0 0 [] d0.2.2.2.2.2.1 d0.2.2.2.2.2.2.1 d0.2.2.2.2.2.2.2 bdk bdk bdk bdk (Rd.nil _ _ none 0 (Nat.zero_le _)) bdk bdk (Rd.mono p0_7 (hW.at (i := 0) rfl)))) (fun v12 m12 hv12 => ?_)
          try dsimp only at hv12
          subst hv12
          refine VO.as ?_
          refine VO.k6 0 1 2 3 19 36 ?_
          refine VC.ret ?_
          refine ⟨_, _, res_run (rs := [.tmp 2]) rfl (.tmp rfl .nil), fun W_ hI => out_of (l := []) hI [] rfl rfl (mle_refl _) (fun hS_ => ?_)⟩
          dsimp only [packV]
          all_goals (first | rfl | (first | exact congrArg Value.bool (decide_eq_false (by unfold helloM; omega)).symm | exact congrArg Value.bool (decide_eq_false (hello_last (by assumption) (by omega) (by omega))).symm | exact congrArg Value.bool (decide_eq_decide.2 (hello_iff ⟨by omega, by omega⟩ (by omega) (lastOk_good (by assumption) (by omega) (by omega)))) | exact congrArg Value.bool (decide_eq_decide.2 (hello_iff ⟨by omega, by omega⟩ (by omega) (lastOk_nil (by omega))))))
theorem shipped11_ok (W : World) {v0 : List Value} {d0 : DMessage} (h0 : Rd TMessage (wm W) v0 d0) : CallR Try.prog 41 [.agg v0.toArray] W (mnil) (fun v m' => v = .bool (decide (shipM d0))) := by
  obtain ⟨p0_A4, p0_c4, p0_A7, p0_c7, rfl, p0_0, p0_1, p0_2, p0_3, p0_4, p0_5, p0_6, p0_7⟩ := open_Message (x0 := d0.1) (x1 := d0.2.1) (x2 := d0.2.2.1) (x3 := d0.2.2.2.1) (x4 := d0.2.2.2.2.1) (x5 := d0.2.2.2.2.2.1) (x6 := d0.2.2.2.2.2.2.1) (x7 := d0.2.2.2.2.2.2.2) h0
  simp only [inK] at p0_0
  simp only [inK] at p0_1
  simp only [inK] at p0_2
  simp only [inK] at p0_3
  have p0_r4 := Rd.room p0_4
  simp only [inK] at p0_5
  simp only [inK] at p0_6
  have p0_r7 := Rd.room p0_7
  refine CallR.ofA (n := 75) Try.func41 rfl rfl rfl ?_
  refine VC.rs ?_
  refine VO.box (cs := [Value.int .i64 (d0.1), Value.int .i64 (d0.2.1), Value.int .u8 (d0.2.2.1), Value.int .i64 (d0.2.2.2.1), Value.slice p0_A4 (d0.2.2.2.2.1.length) (p0_c4), Value.int .i64 (d0.2.2.2.2.2.1), Value.int .i64 (d0.2.2.2.2.2.2.1), Value.slice p0_A7 (d0.2.2.2.2.2.2.2.length) (p0_c7)]) 102 rfl rfl rfl (fun g1 => ?_)
  refine VO.as ?_
  refine VO.k3 0 1 2 ?_
  refine VC.seq ?_
  refine VC.rs ?_
  refine VO.y rfl (.fa rfl tst26 rfl) ?_
  refine VO.y rfl (.ld1 102 rfl tk3 rfl (cellsAt_one rfl rfl)) ?_
  refine VO.y rfl (.lss rfl rfl) ?_
  refine VO.mv ?_
  refine VO.dec (t := 7) rfl (fun hc3 => ?_) (fun hc3 => ?_)
  · -- T
    refine VO.gN ?_
    refine VO.gN ?_
    refine VO.gN ?_
    refine VO.y rfl (.pT rfl rfl) ?_
    refine VO.mv ?_
    refine VO.gN ?_
    refine VO.gN ?_
    refine VO.gN ?_
    refine VO.y rfl (.pT rfl rfl) ?_
    refine VO.mv ?_
    refine VO.gN ?_
    refine VO.gN ?_
    refine VO.gN ?_
    refine VO.gN ?_
    refine VO.gN ?_
    refine VO.y rfl (.pT rfl rfl) ?_
    refine VO.mv ?_
    refine VO.gN ?_
    refine VO.gN ?_
    refine VO.gN ?_
    refine VO.gN ?_
    refine VO.gN ?_
    refine VO.gN ?_
    refine VO.gN ?_
    refine VO.y rfl (.pT rfl rfl) ?_
    refine VO.mv ?_
    refine VO.gN ?_
    refine VO.gN ?_
    refine VO.gN ?_
    refine VO.gN ?_
    refine VO.y rfl (.pT rfl rfl) ?_
    refine VO.k4 0 1 2 38 ?_
    refine VC.condT rfl ?_
    refine VC.rs ?_
    refine VO.as ?_
    refine VO.keep [102, 0] [(102, mone g1 (.cells [Value.int .i64 (d0.1), Value.int .i64 (d0.2.1), Value.int .u8 (d0.2.2.1), Value.int .i64 (d0.2.2.2.1), Value.slice p0_A4 (d0.2.2.2.2.1.length) (p0_c4), Value.int .i64 (d0.2.2.2.2.2.1), Value.int .i64 (d0.2.2.2.2.2.2.1), Value.slice p0_A7 (d0.2.2.2.2.2.2.2.length) (p0_c7)].toArray 26 (0, 0))), (0, wm W)] (by kernel_rfl) ?_
    refine VO.k4 0 1 2 38 ?_
    refine VC.ret ?_
    refine outR ?_
    refine ⟨_, _, res_run (rs := [.tmp 2]) rfl (.tmp rfl .nil), fun W_ hI => out_of (l := []) hI [] rfl rfl (mle_refl _) (fun hS_ => ?_)⟩
    dsimp only [packV]
    all_goals (first | rfl | (first | exact congrArg Value.bool (decide_eq_false (by unfold shipM; omega)).symm | exact congrArg Value.bool (decide_eq_false (ship_len (by assumption))).symm | exact congrArg Value.bool (decide_eq_false (fun e => by have := e.2.2.2.2.2.1 _ (List.mem_of_getElem? ‹_[k]? = some _›); omega)).symm | exact congrArg Value.bool (decide_eq_false (fun e => absurd (none_iff.2 e.2.2.2.2.1) (by assumption))).symm | exact congrArg Value.bool (decide_eq_decide.2 (by have ha2 := ha; rw [List.take_of_length_le (by omega)] at ha2; exact ship_iff (by omega) (by omega) ‹¬ ¬ decide _ = decide _› (by omega) (And.left (by assumption)) ha2))))
  · -- F
    refine VO.gy rfl ⟨_, rfl, rfl⟩ (.fa rfl tst26 rfl) ?_
    refine VO.gy rfl ⟨_, rfl, rfl⟩ (.ld1 102 rfl tk3 rfl (cellsAt_one rfl rfl)) ?_
    refine VO.gy rfl ⟨_, rfl, rfl⟩ (.gtr rfl rfl) ?_
    refine VO.y rfl (.pF rfl rfl) ?_
    refine VO.mv ?_
    refine VO.dec (t := 12) rfl (fun hc4 => ?_) (fun hc4 => ?_)
    · -- FT
      refine VO.gN ?_
      refine VO.gN ?_
      refine VO.gN ?_
      refine VO.y rfl (.pT rfl rfl) ?_
      refine VO.mv ?_
      refine VO.gN ?_
      refine VO.gN ?_
      refine VO.gN ?_
      refine VO.gN ?_
      refine VO.gN ?_
      refine VO.y rfl (.pT rfl rfl) ?_
      refine VO.mv ?_
      refine VO.gN ?_
      refine VO.gN ?_
      refine VO.gN ?_
      refine VO.gN ?_
      refine VO.gN ?_
      refine VO.gN ?_
      refine VO.gN ?_
      refine VO.y rfl (.pT rfl rfl) ?_
      refine VO.mv ?_
      refine VO.gN ?_
      refine VO.gN ?_
      refine VO.gN ?_
      refine VO.gN ?_
      refine VO.y rfl (.pT rfl rfl) ?_
      refine VO.k4 0 1 2 38 ?_
      refine VC.condT rfl ?_
      refine VC.rs ?_
      refine VO.as ?_
      refine VO.keep [102, 0] [(102, mone g1 (.cells [Value.int .i64 (d0.1), Value.int .i64 (d0.2.1), Value.int .u8 (d0.2.2.1), Value.int .i64 (d0.2.2.2.1), Value.slice p0_A4 (d0.2.2.2.2.1.length) (p0_c4), Value.int .i64 (d0.2.2.2.2.2.1), Value.int .i64 (d0.2.2.2.2.2.2.1), Value.slice p0_A7 (d0.2.2.2.2.2.2.2.length) (p0_c7)].toArray 26 (0, 0))), (0, wm W)] (by kernel_rfl) ?_
      refine VO.k4 0 1 2 38 ?_
      refine VC.ret ?_
      refine outR ?_
      refine ⟨_, _, res_run (rs := [.tmp 2]) rfl (.tmp rfl .nil), fun W_ hI => out_of (l := []) hI [] rfl rfl (mle_refl _) (fun hS_ => ?_)⟩
      dsimp only [packV]
      all_goals (first | rfl | (first | exact congrArg Value.bool (decide_eq_false (by unfold shipM; omega)).symm | exact congrArg Value.bool (decide_eq_false (ship_len (by assumption))).symm | exact congrArg Value.bool (decide_eq_false (fun e => by have := e.2.2.2.2.2.1 _ (List.mem_of_getElem? ‹_[k]? = some _›); omega)).symm | exact congrArg Value.bool (decide_eq_false (fun e => absurd (none_iff.2 e.2.2.2.2.1) (by assumption))).symm | exact congrArg Value.bool (decide_eq_decide.2 (by have ha2 := ha; rw [List.take_of_length_le (by omega)] at ha2; exact ship_iff (by omega) (by omega) ‹¬ ¬ decide _ = decide _› (by omega) (And.left (by assumption)) ha2))))
    · -- FF
      refine VO.gy rfl ⟨_, rfl, rfl⟩ (.fa rfl tst26 rfl) ?_
      refine VO.gy rfl ⟨_, rfl, rfl⟩ (.ld1 102 rfl tk3 rfl (cellsAt_one rfl rfl)) ?_
      refine VO.gy rfl ⟨_, rfl, rfl⟩ (.lss rfl rfl) ?_
      refine VO.y rfl (.pF rfl rfl) ?_
      refine VO.mv ?_
      refine VO.dec (t := 17) rfl (fun hc5 => ?_) (fun hc5 => ?_)
      · -- FFT
        refine VO.gN ?_
        refine VO.gN ?_
        refine VO.gN ?_
        refine VO.gN ?_
        refine VO.gN ?_
        refine VO.y rfl (.pT rfl rfl) ?_
        refine VO.mv ?_
        refine VO.gN ?_
        refine VO.gN ?_
        refine VO.gN ?_
        refine VO.gN ?_
        refine VO.gN ?_
        refine VO.gN ?_
        refine VO.gN ?_
        refine VO.y rfl (.pT rfl rfl) ?_
        refine VO.mv ?_
        refine VO.gN ?_
        refine VO.gN ?_
        refine VO.gN ?_
        refine VO.gN ?_
        refine VO.y rfl (.pT rfl rfl) ?_
        refine VO.k4 0 1 2 38 ?_
        refine VC.condT rfl ?_
        refine VC.rs ?_
        refine VO.as ?_
        refine VO.keep [102, 0] [(102, mone g1 (.cells [Value.int .i64 (d0.1), Value.int .i64 (d0.2.1), Value.int .u8 (d0.2.2.1), Value.int .i64 (d0.2.2.2.1), Value.slice p0_A4 (d0.2.2.2.2.1.length) (p0_c4), Value.int .i64 (d0.2.2.2.2.2.1), Value.int .i64 (d0.2.2.2.2.2.2.1), Value.slice p0_A7 (d0.2.2.2.2.2.2.2.length) (p0_c7)].toArray 26 (0, 0))), (0, wm W)] (by kernel_rfl) ?_
        refine VO.k4 0 1 2 38 ?_
        refine VC.ret ?_
        refine outR ?_
        refine ⟨_, _, res_run (rs := [.tmp 2]) rfl (.tmp rfl .nil), fun W_ hI => out_of (l := []) hI [] rfl rfl (mle_refl _) (fun hS_ => ?_)⟩
        dsimp only [packV]
        all_goals (first | rfl | (first | exact congrArg Value.bool (decide_eq_false (by unfold shipM; omega)).symm | exact congrArg Value.bool (decide_eq_false (ship_len (by assumption))).symm | exact congrArg Value.bool (decide_eq_false (fun e => by have := e.2.2.2.2.2.1 _ (List.mem_of_getElem? ‹_[k]? = some _›); omega)).symm | exact congrArg Value.bool (decide_eq_false (fun e => absurd (none_iff.2 e.2.2.2.2.1) (by assumption))).symm | exact congrArg Value.bool (decide_eq_decide.2 (by have ha2 := ha; rw [List.take_of_length_le (by omega)] at ha2; exact ship_iff (by omega) (by omega) ‹¬ ¬ decide _ = decide _› (by omega) (And.left (by assumption)) ha2))))
      · -- FFF
        refine VO.gy rfl ⟨_, rfl, rfl⟩ (.fa rfl tst26 rfl) ?_
        refine VO.gy rfl ⟨_, rfl, rfl⟩ (.ld1 102 rfl tk3 rfl (cellsAt_one rfl rfl)) ?_
        refine VO.gy rfl ⟨_, rfl, rfl⟩ (.fa rfl tst26 rfl) ?_
        refine VO.gy rfl ⟨_, rfl, rfl⟩ (.ld1 102 rfl tk3 rfl (cellsAt_one rfl rfl)) ?_
        refine VO.gy rfl ⟨_, rfl, rfl⟩ (.gtr rfl rfl) ?_
        refine VO.y rfl (.pF rfl rfl) ?_
        refine VO.mv ?_
        refine VO.dec (t := 24) rfl (fun hc6 => ?_) (fun hc6 => ?_)
        · -- FFFT
          refine VO.gN ?_
          refine VO.gN ?_
          refine VO.gN ?_
          refine VO.gN ?_
          refine VO.gN ?_
          refine VO.gN ?_
          refine VO.gN ?_
          refine VO.y rfl (.pT rfl rfl) ?_
          refine VO.mv ?_
          refine VO.gN ?_
          refine VO.gN ?_
          refine VO.gN ?_
          refine VO.gN ?_
          refine VO.y rfl (.pT rfl rfl) ?_
          refine VO.k4 0 1 2 38 ?_
          refine VC.condT rfl ?_
          refine VC.rs ?_
          refine VO.as ?_
          refine VO.keep [102, 0] [(102, mone g1 (.cells [Value.int .i64 (d0.1), Value.int .i64 (d0.2.1), Value.int .u8 (d0.2.2.1), Value.int .i64 (d0.2.2.2.1), Value.slice p0_A4 (d0.2.2.2.2.1.length) (p0_c4), Value.int .i64 (d0.2.2.2.2.2.1), Value.int .i64 (d0.2.2.2.2.2.2.1), Value.slice p0_A7 (d0.2.2.2.2.2.2.2.length) (p0_c7)].toArray 26 (0, 0))), (0, wm W)] (by kernel_rfl) ?_
          refine VO.k4 0 1 2 38 ?_
          refine VC.ret ?_
          refine outR ?_
          refine ⟨_, _, res_run (rs := [.tmp 2]) rfl (.tmp rfl .nil), fun W_ hI => out_of (l := []) hI [] rfl rfl (mle_refl _) (fun hS_ => ?_)⟩
          dsimp only [packV]
          all_goals (first | rfl | (first | exact congrArg Value.bool (decide_eq_false (by unfold shipM; omega)).symm | exact congrArg Value.bool (decide_eq_false (ship_len (by assumption))).symm | exact congrArg Value.bool (decide_eq_false (fun e => by have := e.2.2.2.2.2.1 _ (List.mem_of_getElem? ‹_[k]? = some _›); omega)).symm | exact congrArg Value.bool (decide_eq_false (fun e => absurd (none_iff.2 e.2.2.2.2.1) (by assumption))).symm | exact congrArg Value.bool (decide_eq_decide.2 (by have ha2 := ha; rw [List.take_of_length_le (by omega)] at ha2; exact ship_iff (by omega) (by omega) ‹¬ ¬ decide _ = decide _› (by omega) (And.left (by assumption)) ha2))))
        · -- FFFF
          refine VO.gy rfl ⟨_, rfl, rfl⟩ (.fa rfl tst26 rfl) ?_
          refine VO.gy rfl ⟨_, rfl, rfl⟩ (.ld1 102 rfl tk3 rfl (cellsAt_one rfl rfl)) ?_
          refine VO.gy rfl ⟨_, rfl, rfl⟩ (.eql rfl rfl) ?_
          refine VO.gy rfl ⟨_, rfl, rfl⟩ (.fa rfl tst26 rfl) ?_
          refine VO.gy rfl ⟨_, rfl, rfl⟩ (.ld1 102 rfl tk3 rfl (cellsAt_one rfl rfl)) ?_
          refine VO.gy rfl ⟨_, rfl, rfl⟩ (.eql rfl rfl) ?_
          refine VO.gy rfl ⟨_, rfl, rfl⟩ (.bneq rfl rfl Try.underlying4) ?_
          refine VO.y rfl (.pF rfl rfl) ?_
          refine VO.mv ?_
          refine VO.dec (t := 33) rfl (fun hc7 => ?_) (fun hc7 => ?_)
          · -- FFFFT
            refine VO.gN ?_
            refine VO.gN ?_
            refine VO.gN ?_
            refine VO.gN ?_
            refine VO.y rfl (.pT rfl rfl) ?_
            refine VO.k4 0 1 2 38 ?_
            refine VC.condT rfl ?_
            refine VC.rs ?_
            refine VO.as ?_
            refine VO.keep [102, 0] [(102, mone g1 (.cells [Value.int .i64 (d0.1), Value.int .i64 (d0.2.1), Value.int .u8 (d0.2.2.1), Value.int .i64 (d0.2.2.2.1), Value.slice p0_A4 (d0.2.2.2.2.1.length) (p0_c4), Value.int .i64 (d0.2.2.2.2.2.1), Value.int .i64 (d0.2.2.2.2.2.2.1), Value.slice p0_A7 (d0.2.2.2.2.2.2.2.length) (p0_c7)].toArray 26 (0, 0))), (0, wm W)] (by kernel_rfl) ?_
            refine VO.k4 0 1 2 38 ?_
            refine VC.ret ?_
            refine outR ?_
            refine ⟨_, _, res_run (rs := [.tmp 2]) rfl (.tmp rfl .nil), fun W_ hI => out_of (l := []) hI [] rfl rfl (mle_refl _) (fun hS_ => ?_)⟩
            dsimp only [packV]
            all_goals (first | rfl | (first | exact congrArg Value.bool (decide_eq_false (by unfold shipM; omega)).symm | exact congrArg Value.bool (decide_eq_false (ship_len (by assumption))).symm | exact congrArg Value.bool (decide_eq_false (fun e => by have := e.2.2.2.2.2.1 _ (List.mem_of_getElem? ‹_[k]? = some _›); omega)).symm | exact congrArg Value.bool (decide_eq_false (fun e => absurd (none_iff.2 e.2.2.2.2.1) (by assumption))).symm | exact congrArg Value.bool (decide_eq_decide.2 (by have ha2 := ha; rw [List.take_of_length_le (by omega)] at ha2; exact ship_iff (by omega) (by omega) ‹¬ ¬ decide _ = decide _› (by omega) (And.left (by assumption)) ha2))))
          · -- FFFFF
            refine VO.gy rfl ⟨_, rfl, rfl⟩ (.fa rfl tst26 rfl) ?_
            refine VO.gy rfl ⟨_, rfl, rfl⟩ (.ld1 102 rfl tk24 rfl (cellsAt_one rfl rfl)) ?_
            refine VO.gy rfl ⟨_, rfl, rfl⟩ (.lenS rfl tsl24) ?_
            refine VO.gy rfl ⟨_, rfl, rfl⟩ (.gtr rfl rfl) ?_
            refine VO.y rfl (.pF rfl rfl) ?_
            refine VO.k4 0 1 2 38 ?_
            refine VC.cond rfl (fun hc8 => ?_) (fun hc8 => ?_)
            · -- FFFFFT
              refine VC.rs ?_
              refine VO.as ?_
              refine VO.keep [102, 0] [(102, mone g1 (.cells [Value.int .i64 (d0.1), Value.int .i64 (d0.2.1), Value.int .u8 (d0.2.2.1), Value.int .i64 (d0.2.2.2.1), Value.slice p0_A4 (d0.2.2.2.2.1.length) (p0_c4), Value.int .i64 (d0.2.2.2.2.2.1), Value.int .i64 (d0.2.2.2.2.2.2.1), Value.slice p0_A7 (d0.2.2.2.2.2.2.2.length) (p0_c7)].toArray 26 (0, 0))), (0, wm W)] (by kernel_rfl) ?_
              refine VO.k4 0 1 2 38 ?_
              refine VC.ret ?_
              refine outR ?_
              refine ⟨_, _, res_run (rs := [.tmp 2]) rfl (.tmp rfl .nil), fun W_ hI => out_of (l := []) hI [] rfl rfl (mle_refl _) (fun hS_ => ?_)⟩
              dsimp only [packV]
              all_goals (first | rfl | (first | exact congrArg Value.bool (decide_eq_false (by unfold shipM; omega)).symm | exact congrArg Value.bool (decide_eq_false (ship_len (by assumption))).symm | exact congrArg Value.bool (decide_eq_false (fun e => by have := e.2.2.2.2.2.1 _ (List.mem_of_getElem? ‹_[k]? = some _›); omega)).symm | exact congrArg Value.bool (decide_eq_false (fun e => absurd (none_iff.2 e.2.2.2.2.1) (by assumption))).symm | exact congrArg Value.bool (decide_eq_decide.2 (by have ha2 := ha; rw [List.take_of_length_le (by omega)] at ha2; exact ship_iff (by omega) (by omega) ‹¬ ¬ decide _ = decide _› (by omega) (And.left (by assumption)) ha2))))
            · -- FFFFFF
              refine VC.skip ?_
              refine outN ?_
              refine VC.seq ?_
              refine VC.rs ?_
              refine VO.as ?_
              refine VO.keep [102, 0] [(102, mone g1 (.cells [Value.int .i64 (d0.1), Value.int .i64 (d0.2.1), Value.int .u8 (d0.2.2.1), Value.int .i64 (d0.2.2.2.1), Value.slice p0_A4 (d0.2.2.2.2.1.length) (p0_c4), Value.int .i64 (d0.2.2.2.2.2.1), Value.int .i64 (d0.2.2.2.2.2.2.1), Value.slice p0_A7 (d0.2.2.2.2.2.2.2.length) (p0_c7)].toArray 26 (0, 0))), (0, wm W)] (by kernel_rfl) ?_
              refine VO.k5 0 1 2 3 38 ?_
              refine VC.block ?_
              refine VC.loop (G := Nat) (fun k => [(3, Value.int .i64 (((k : Nat) : Int))), (0, Value.agg [Value.int .i64 (d0.1), Value.int .i64 (d0.2.1), Value.int .u8 (d0.2.2.1), Value.int .i64 (d0.2.2.2.1), Value.slice p0_A4 (d0.2.2.2.2.1.length) (p0_c4), Value.int .i64 (d0.2.2.2.2.2.1), Value.int .i64 (d0.2.2.2.2.2.2.1), Value.slice p0_A7 (d0.2.2.2.2.2.2.2.length) (p0_c7)].toArray), (1, Value.pointer (some ⟨g1, 0, none⟩)), (38, Value.bool (decide (4 < ((d0.2.2.2.2.2.2.2.length : Nat) : Int))))]) (fun k => [(102, mone g1 (.cells [Value.int .i64 (d0.1), Value.int .i64 (d0.2.1), Value.int .u8 (d0.2.2.1), Value.int .i64 (d0.2.2.2.1), Value.slice p0_A4 (d0.2.2.2.2.1.length) (p0_c4), Value.int .i64 (d0.2.2.2.2.2.1), Value.int .i64 (d0.2.2.2.2.2.2.1), Value.slice p0_A7 (d0.2.2.2.2.2.2.2.length) (p0_c7)].toArray 26 (0, 0))), (0, wm W)]) (fun k => (k ≤ d0.2.2.2.2.2.2.2.length) ∧ (∀ c ∈ d0.2.2.2.2.2.2.2.take k, c.1 ≤ d0.2.1)) (fun k => d0.2.2.2.2.2.2.2.length - k) 0 (⟨by omega, by simp⟩) ⟨⟨rfl, rfl, rfl, rfl, trivial⟩, fun _ h => h.sub [102, 0]⟩ ?_
              rintro k ⟨hk, ha⟩
              refine VC.seq ?_
              refine VC.rs ?_
              refine VO.mv ?_
              refine VO.y rfl (.fa rfl tst26 rfl) ?_
              refine VO.y rfl (.ld1 102 rfl tk24 rfl (cellsAt_one rfl rfl)) ?_
              refine VO.y rfl (.lenS rfl tsl24) ?_
              refine VO.y rfl (.lss rfl rfl) ?_
              refine VO.k5 0 1 3 38 43 ?_
              refine VC.cond rfl (fun hc9 => ?_) (fun hc9 => ?_)
              · -- FFFFFFT
                refine VC.skip ?_
                refine outN ?_
                refine VC.seq ?_
                refine VC.block ?_
                refine VC.seq ?_
                refine VC.regD _ 8 [(0, true), (1, true), (2, true), (3, true), (4, true), (5, true), (6, true), (7, true)] follows (by kernel_rfl) (fun _ h => h.sub [102, 0]) ?_
                refine VD.y rfl rfl (.inl rfl) (.fa rfl tst26 rfl) ?_
                refine VD.y rfl rfl (.inl rfl) (.ld1 102 rfl tk24 rfl (cellsAt_one rfl rfl)) ?_
                refine VD.y rfl rfl (.inl rfl) (.mv rfl) ?_
                obtain ⟨x10, hx10⟩ : ∃ z_, (d0.2.2.2.2.2.2.2)[k]? = some z_ := ⟨_, List.getElem?_eq_getElem bd⟩
                obtain ⟨gg10, oo10, ec10, ea10, hce10, hre10⟩ := p0_7.elem hx10
                cases ea10
                obtain ⟨q10_A2, q10_c2, rfl, q10_0, q10_1, q10_2⟩ := open_Commit (x0 := x10.1) (x1 := x10.2.1) (x2 := x10.2.2) hre10
                simp only [inK] at q10_0
                simp only [inK] at q10_1
                have q10_r2 := Rd.room q10_2
                refine VD.y rfl rfl (.inl rfl) (.ixI k rfl rfl tsl24 rfl bd) ?_
                refine VD.y rfl rfl (.inl rfl) (.fa rfl tst43 rfl) ?_
                refine VD.y rfl rfl (.inl rfl) (.ld1 0 rfl tk3 rfl (hce10.at1 (j := 0) rfl)) ?_
                refine VD.y rfl rfl (.inl rfl) (.fa rfl tst26 rfl) ?_
                refine VD.y rfl rfl (.inl rfl) (.ld1 102 rfl tk3 rfl (cellsAt_one rfl rfl)) ?_
                refine VD.nil rfl ?_ rfl
                refine VO.y rfl (.gtr rfl rfl) ?_
                refine VO.k6 0 1 3 38 43 54 ?_
                refine outN ?_
                refine VC.cond rfl (fun hc11 => ?_) (fun hc11 => ?_)
                · -- FFFFFFTT
                  refine VC.rs ?_
                  refine VO.as ?_
                  refine VO.keep [102, 0] [(102, mone g1 (.cells [Value.int .i64 (d0.1), Value.int .i64 (d0.2.1), Value.int .u8 (d0.2.2.1), Value.int .i64 (d0.2.2.2.1), Value.slice p0_A4 (d0.2.2.2.2.1.length) (p0_c4), Value.int .i64 (d0.2.2.2.2.2.1), Value.int .i64 (d0.2.2.2.2.2.2.1), Value.slice (some ⟨gg10, oo10, none⟩) (d0.2.2.2.2.2.2.2.length) (p0_c7)].toArray 26 (0, 0))), (0, wm W)] (by kernel_rfl) ?_
                  refine VO.k7 0 1 2 3 38 43 54 ?_
                  refine VC.ret ?_
                  refine outBR ?_
                  refine outR ?_
                  refine outR ?_
                  refine outBR ?_
                  refine outR ?_
                  refine ⟨_, _, res_run (rs := [.tmp 2]) rfl (.tmp rfl .nil), fun W_ hI => out_of (l := []) hI [] rfl rfl (mle_refl _) (fun hS_ => ?_)⟩
                  dsimp only [packV]
                  all_goals (first | rfl | (first | exact congrArg Value.bool (decide_eq_false (by unfold shipM; omega)).symm | exact congrArg Value.bool (decide_eq_false (ship_len (by assumption))).symm | exact congrArg Value.bool (decide_eq_false (fun e => by have := e.2.2.2.2.2.1 _ (List.mem_of_getElem? ‹_[k]? = some _›); omega)).symm | exact congrArg Value.bool (decide_eq_false (fun e => absurd (none_iff.2 e.2.2.2.2.1) (by assumption))).symm | exact congrArg Value.bool (decide_eq_decide.2 (by have ha2 := ha; rw [List.take_of_length_le (by omega)] at ha2; exact ship_iff (by omega) (by omega) ‹¬ ¬ decide _ = decide _› (by omega) (And.left (by assumption)) ha2))))
                · -- FFFFFFTF
                  refine VC.skip ?_
                  refine outBN ?_
                  refine outN ?_
                  refine VC.reg ?_
                  refine VO.mv ?_
                  refine VO.y rfl (.add (c := ((k + 1 : Nat) : Int)) rfl rfl (by omega) ⟨bd, bd⟩) ?_
                  refine VO.as ?_
                  refine VO.keep [102, 0] [(102, mone g1 (.cells [Value.int .i64 (d0.1), Value.int .i64 (d0.2.1), Value.int .u8 (d0.2.2.1), Value.int .i64 (d0.2.2.2.1), Value.slice p0_A4 (d0.2.2.2.2.1.length) (p0_c4), Value.int .i64 (d0.2.2.2.2.2.1), Value.int .i64 (d0.2.2.2.2.2.2.1), Value.slice (some ⟨gg10, oo10, none⟩) (d0.2.2.2.2.2.2.2.length) (p0_c7)].toArray 26 (0, 0))), (0, wm W)] (by kernel_rfl) ?_
                  refine VO.k6 0 1 3 38 43 54 ?_
                  exact outN ⟨k + 1, ⟨by omega, by exact all_next ha ‹d0.2.2.2.2.2.2.2[k]? = some _› (by omega)⟩, bd, ⟨⟨rfl, rfl, rfl, rfl, trivial⟩, fun _ h => Inv.sub h [102, 0]⟩⟩
              · -- FFFFFFF
                refine VC.exit ?_
                refine outE ?_
                refine outE ?_
                refine outBB ?_
                refine outN ?_
                refine VC.rs ?_
                refine VO.y rfl (.fa rfl tst26 rfl) ?_
                refine VO.y rfl (.ld1 102 rfl tk3 rfl (cellsAt_one rfl rfl)) ?_
                refine VO.y rfl (.fa rfl tst26 rfl) ?_
                refine VO.y rfl (.ld1 102 rfl tk3 rfl (cellsAt_one rfl rfl)) ?_
                refine VO.y rfl (.sub rfl rfl rfl ⟨bd, bd⟩) ?_
                refine VO.y rfl (.fa rfl tst26 rfl) ?_
                refine VO.y rfl (.ld1 102 rfl tk24 rfl (cellsAt_one rfl rfl)) ?_
                refine VO.callN 112 rfl fnOk73 rfl (fun W hW => c4Follows_ok W d0.2.2.2.2.2.2.1 bdk (d0.2.2.2.2.2.1 - 1) bdk (Rd.mono p0_7 (hW.at (i := 0) rfl))) (fun v12 m12 hv12 => ?_)
                obtain ⟨s12_0, rfl, f12_0⟩ := hv12
                obtain ⟨rfl, q12_0_0, q12_0_1⟩ := open_Fault (x0 := (cFollows d0.2.2.2.2.2.2.1 (d0.2.2.2.2.2.1 - 1) d0.2.2.2.2.2.2.2).1) (x1 := (cFollows d0.2.2.2.2.2.2.1 (d0.2.2.2.2.2.1 - 1) d0.2.2.2.2.2.2.2).2) (f12_0.rd (mle_refl _))
                simp only [inK] at q12_0_0
                simp only [inK] at q12_0_1
                refine VO.y rfl (.bst (cs := [Value.int .i64 (0), Value.int .i64 (0)]) rfl tst92 tz92 rfl) ?_
                refine VO.y rfl (.steql (p := ((cFollows d0.2.2.2.2.2.2.1 (d0.2.2.2.2.2.1 - 1) d0.2.2.2.2.2.2.2).1) = 0 ∧ ((cFollows d0.2.2.2.2.2.2.1 (d0.2.2.2.2.2.1 - 1) d0.2.2.2.2.2.2.2).2) = 0) rfl rfl (teq92 ((cFollows d0.2.2.2.2.2.2.1 (d0.2.2.2.2.2.1 - 1) d0.2.2.2.2.2.2.2).1) ((cFollows d0.2.2.2.2.2.2.1 (d0.2.2.2.2.2.1 - 1) d0.2.2.2.2.2.2.2).2)) (teq92 0 0) (by simp [ceq, ba_toList])) ?_
                refine VO.mv ?_
                refine VO.dec (t := 65) rfl (fun hc13 => ?_) (fun hc13 => ?_)
                · -- FFFFFFFT
                  refine VO.gy rfl ⟨_, rfl, rfl⟩ (.fa rfl tst26 rfl) ?_
                  refine VO.gy rfl ⟨_, rfl, rfl⟩ (.ld1 102 rfl tk22 rfl (cellsAt_one rfl rfl)) ?_
                  refine VO.gy rfl ⟨_, rfl, rfl⟩ (.fa rfl tst26 rfl) ?_
                  refine VO.gy rfl ⟨_, rfl, rfl⟩ (.ld1 102 rfl tk3 rfl (cellsAt_one rfl rfl)) ?_
                  refine VO.gy rfl ⟨_, rfl, rfl⟩ (.fa rfl tst26 rfl) ?_
                  refine VO.gy rfl ⟨_, rfl, rfl⟩ (.ld1 102 rfl tk23 rfl (cellsAt_one rfl rfl)) ?_
                  refine VO.gy rfl ⟨_, rfl, rfl⟩ (.bst (cs := [Value.int .i64 (0), Value.int .i64 (0), Value.int .u8 (d0.2.2.1), Value.int .i64 (d0.2.2.2.1), Value.slice p0_A4 (d0.2.2.2.2.1.length) (p0_c4), Value.int .i64 (0), Value.int .i64 (0), Value.slice none (0) (0)]) rfl tst26 tz26 rfl) ?_
                  refine VO.gcallN 114 rfl ⟨_, rfl, rfl⟩ fnOk42 rfl (fun W hW => plain11_ok W (mk_Message (m := wm W) 0 0 d0.2.2.1 d0.2.2.2.1 d0.2.2.2.2.1 0 0 [] bdk bdk bdk bdk (Rd.mono p0_4 (hW.at (i := 0) rfl)) bdk bdk (Rd.nil _ _ none 0 (Nat.zero_le _)))) (fun v14 m14 hv14 => ?_)
                  try dsimp only at hv14
                  subst hv14
                  refine VO.y rfl (.pT rfl rfl) ?_
                  refine VO.as ?_
                  refine VO.k6 0 1 2 3 38 43 ?_
                  refine VC.ret ?_
                  refine ⟨_, _, res_run (rs := [.tmp 2]) rfl (.tmp rfl .nil), fun W_ hI => out_of (l := []) hI [] rfl rfl (mle_refl _) (fun hS_ => ?_)⟩
                  dsimp only [packV]
                  all_goals (first | rfl | (first | exact congrArg Value.bool (decide_eq_false (by unfold shipM; omega)).symm | exact congrArg Value.bool (decide_eq_false (ship_len (by assumption))).symm | exact congrArg Value.bool (decide_eq_false (fun e => by have := e.2.2.2.2.2.1 _ (List.mem_of_getElem? ‹_[k]? = some _›); omega)).symm | exact congrArg Value.bool (decide_eq_false (fun e => absurd (none_iff.2 e.2.2.2.2.1) (by assumption))).symm | exact congrArg Value.bool (decide_eq_decide.2 (by have ha2 := ha; rw [List.take_of_length_le (by omega)] at ha2; exact ship_iff (by omega) (by omega) ‹¬ ¬ decide _ = decide _› (by omega) (And.left (by assumption)) ha2))))
                · -- FFFFFFFF
                  refine VO.gN ?_
                  refine VO.gN ?_
                  refine VO.gN ?_
                  refine VO.gN ?_
                  refine VO.gN ?_
                  refine VO.gN ?_
                  refine VO.gN ?_
                  refine VO.gN ?_
                  refine VO.y rfl (.pF rfl rfl) ?_
                  refine VO.as ?_
                  refine VO.k6 0 1 2 3 38 43 ?_
                  refine VC.ret ?_
                  refine ⟨_, _, res_run (rs := [.tmp 2]) rfl (.tmp rfl .nil), fun W_ hI => out_of (l := []) hI [] rfl rfl (mle_refl _) (fun hS_ => ?_)⟩
                  dsimp only [packV]
                  all_goals (first | rfl | (first | exact congrArg Value.bool (decide_eq_false (by unfold shipM; omega)).symm | exact congrArg Value.bool (decide_eq_false (ship_len (by assumption))).symm | exact congrArg Value.bool (decide_eq_false (fun e => by have := e.2.2.2.2.2.1 _ (List.mem_of_getElem? ‹_[k]? = some _›); omega)).symm | exact congrArg Value.bool (decide_eq_false (fun e => absurd (none_iff.2 e.2.2.2.2.1) (by assumption))).symm | exact congrArg Value.bool (decide_eq_decide.2 (by have ha2 := ha; rw [List.take_of_length_le (by omega)] at ha2; exact ship_iff (by omega) (by omega) ‹¬ ¬ decide _ = decide _› (by omega) (And.left (by assumption)) ha2))))
end
section
set_option linter.unusedVariables false
set_option linter.unusedSimpArgs false
set_option maxRecDepth 4000
theorem check11_ok (W : World) {v0 : List Value} {d0 : DMessage} (h0 : Rd TMessage (wm W) v0 d0) : CallR Try.prog 14 [.agg v0.toArray] W (mnil) (fun v m' => v = .int .i64 (lCheck d0)) := by
  obtain ⟨p0_A4, p0_c4, p0_A7, p0_c7, rfl, p0_0, p0_1, p0_2, p0_3, p0_4, p0_5, p0_6, p0_7⟩ := open_Message (x0 := d0.1) (x1 := d0.2.1) (x2 := d0.2.2.1) (x3 := d0.2.2.2.1) (x4 := d0.2.2.2.2.1) (x5 := d0.2.2.2.2.2.1) (x6 := d0.2.2.2.2.2.2.1) (x7 := d0.2.2.2.2.2.2.2) h0
  simp only [inK] at p0_0
  simp only [inK] at p0_1
  simp only [inK] at p0_2
  simp only [inK] at p0_3
  have p0_r4 := Rd.room p0_4
  simp only [inK] at p0_5
  simp only [inK] at p0_6
  have p0_r7 := Rd.room p0_7
  refine CallR.ofA (n := 50) Try.func14 rfl rfl rfl ?_
  refine VC.rs ?_
  refine VO.box (cs := [Value.int .i64 (d0.1), Value.int .i64 (d0.2.1), Value.int .u8 (d0.2.2.1), Value.int .i64 (d0.2.2.2.1), Value.slice p0_A4 (d0.2.2.2.2.1.length) (p0_c4), Value.int .i64 (d0.2.2.2.2.2.1), Value.int .i64 (d0.2.2.2.2.2.2.1), Value.slice p0_A7 (d0.2.2.2.2.2.2.2.length) (p0_c7)]) 102 rfl rfl rfl (fun g1 => ?_)
  refine VO.as ?_
  refine VO.k3 0 1 2 ?_
  refine VC.rs ?_
  refine VO.as ?_
  refine VO.k4 0 1 2 3 ?_
  refine VC.seq ?_
  refine VC.rs ?_
  refine VO.y rfl (.fa rfl tst26 rfl) ?_
  refine VO.y rfl (.ld1 102 rfl tk3 rfl (cellsAt_one rfl rfl)) ?_
  refine VO.keep [102, 0] [(102, mone g1 (.cells [Value.int .i64 (d0.1), Value.int .i64 (d0.2.1), Value.int .u8 (d0.2.2.1), Value.int .i64 (d0.2.2.2.1), Value.slice p0_A4 (d0.2.2.2.2.1.length) (p0_c4), Value.int .i64 (d0.2.2.2.2.2.1), Value.int .i64 (d0.2.2.2.2.2.2.1), Value.slice p0_A7 (d0.2.2.2.2.2.2.2.length) (p0_c7)].toArray 26 (0, 0))), (0, wm W)] (by kernel_rfl) ?_
  refine VO.k5 0 1 2 3 5 ?_
  refine VC.block ?_
  refine VC.rs ?_
  refine VO.y rfl (.eql rfl rfl) ?_
  refine VO.as ?_
  refine VO.k6 0 1 2 3 5 6 ?_
  refine VC.cond rfl (fun hc3 => ?_) (fun hc3 => ?_)
  · -- T
    refine VC.reg ?_
    refine VO.y rfl (.ldA 102 rfl tk26 rfl (cellsAt_one rfl rfl)) ?_
    refine VO.callN 104 rfl fnOk40 rfl (fun W hW => hello11_ok W (Rd.mono h0 (hW.at (i := 0) rfl))) (fun v4 m4 hv4 => ?_)
    subst hv4
    refine VO.as ?_
    refine VO.k6 0 1 2 3 5 6 ?_
    refine outBN ?_
    refine outN ?_
    refine VC.seq ?_
    refine VC.rs ?_
    refine VO.mv ?_
    refine VO.y rfl (.notD rfl) ?_
    refine VO.mv ?_
    refine VO.dec (t := 40) rfl (fun hc5 => ?_) (fun hc5 => ?_)
    · -- TT
      refine VO.gN ?_
      refine VO.gN ?_
      refine VO.gN ?_
      refine VO.y rfl (.pT rfl rfl) ?_
      refine VO.mv ?_
      refine VO.gN ?_
      refine VO.gN ?_
      refine VO.gN ?_
      refine VO.y rfl (.pT rfl rfl) ?_
      refine VO.keep [102, 0] [(102, mone g1 (.cells [Value.int .i64 (d0.1), Value.int .i64 (d0.2.1), Value.int .u8 (d0.2.2.1), Value.int .i64 (d0.2.2.2.1), Value.slice p0_A4 (d0.2.2.2.2.1.length) (p0_c4), Value.int .i64 (d0.2.2.2.2.2.1), Value.int .i64 (d0.2.2.2.2.2.2.1), Value.slice p0_A7 (d0.2.2.2.2.2.2.2.length) (p0_c7)].toArray 26 (0, 0))), (0, wm W)] (by kernel_rfl) ?_
      refine VO.k7 0 1 2 3 5 6 49 ?_
      refine VC.condT rfl ?_
      refine VC.rs ?_
      refine VO.as ?_
      refine VO.k7 0 1 2 3 5 6 49 ?_
      refine VC.ret ?_
      refine outR ?_
      refine ⟨_, _, res_run (rs := [.tmp 2]) rfl (.tmp rfl .nil), fun W_ hI => out_of (l := []) hI [] rfl rfl (mle_refl _) (fun hS_ => ?_)⟩
      dsimp only [packV]
      all_goals (first | rfl | (congr 1; first | exact (lCheck_good ⟨by omega, .inl ⟨by omega, Decidable.not_not.1 ‹¬ ¬ helloM d0›⟩⟩).symm | exact (lCheck_good ⟨by omega, .inr (.inl ⟨by omega, Decidable.not_not.1 ‹¬ ¬ shipM d0›⟩)⟩).symm | exact (lCheck_good ⟨by omega, .inr (.inr ⟨by omega, (ack_iff (m := d0) ⟨by omega, by omega⟩).1 (Decidable.not_not.1 ‹¬ ¬ bareM _›)⟩)⟩).symm | exact (lCheck_bad (by rintro ⟨e0, e | e | e⟩ <;> first | omega | exact absurd e.2 (by assumption) | exact absurd ((ack_iff e.2.1).2 e.2) (by assumption) | (unfold ackM at e; omega))).symm))
    · -- TF
      refine VO.gy rfl ⟨_, rfl, rfl⟩ (.fa rfl tst26 rfl) ?_
      refine VO.gy rfl ⟨_, rfl, rfl⟩ (.ld1 102 rfl tk3 rfl (cellsAt_one rfl rfl)) ?_
      refine VO.gy rfl ⟨_, rfl, rfl⟩ (.lss rfl rfl) ?_
      refine VO.y rfl (.pF rfl rfl) ?_
      refine VO.mv ?_
      refine VO.dec (t := 45) rfl (fun hc6 => ?_) (fun hc6 => ?_)
      · -- TFT
        refine VO.gN ?_
        refine VO.gN ?_
        refine VO.gN ?_
        refine VO.y rfl (.pT rfl rfl) ?_
        refine VO.keep [102, 0] [(102, mone g1 (.cells [Value.int .i64 (d0.1), Value.int .i64 (d0.2.1), Value.int .u8 (d0.2.2.1), Value.int .i64 (d0.2.2.2.1), Value.slice p0_A4 (d0.2.2.2.2.1.length) (p0_c4), Value.int .i64 (d0.2.2.2.2.2.1), Value.int .i64 (d0.2.2.2.2.2.2.1), Value.slice p0_A7 (d0.2.2.2.2.2.2.2.length) (p0_c7)].toArray 26 (0, 0))), (0, wm W)] (by kernel_rfl) ?_
        refine VO.k7 0 1 2 3 5 6 49 ?_
        refine VC.condT rfl ?_
        refine VC.rs ?_
        refine VO.as ?_
        refine VO.k7 0 1 2 3 5 6 49 ?_
        refine VC.ret ?_
        refine outR ?_
        refine ⟨_, _, res_run (rs := [.tmp 2]) rfl (.tmp rfl .nil), fun W_ hI => out_of (l := []) hI [] rfl rfl (mle_refl _) (fun hS_ => ?_)⟩
        dsimp only [packV]
        all_goals (first | rfl | (congr 1; first | exact (lCheck_good ⟨by omega, .inl ⟨by omega, Decidable.not_not.1 ‹¬ ¬ helloM d0›⟩⟩).symm | exact (lCheck_good ⟨by omega, .inr (.inl ⟨by omega, Decidable.not_not.1 ‹¬ ¬ shipM d0›⟩)⟩).symm | exact (lCheck_good ⟨by omega, .inr (.inr ⟨by omega, (ack_iff (m := d0) ⟨by omega, by omega⟩).1 (Decidable.not_not.1 ‹¬ ¬ bareM _›)⟩)⟩).symm | exact (lCheck_bad (by rintro ⟨e0, e | e | e⟩ <;> first | omega | exact absurd e.2 (by assumption) | exact absurd ((ack_iff e.2.1).2 e.2) (by assumption) | (unfold ackM at e; omega))).symm))
      · -- TFF
        refine VO.gy rfl ⟨_, rfl, rfl⟩ (.fa rfl tst26 rfl) ?_
        refine VO.gy rfl ⟨_, rfl, rfl⟩ (.ld1 102 rfl tk3 rfl (cellsAt_one rfl rfl)) ?_
        refine VO.gy rfl ⟨_, rfl, rfl⟩ (.gtr rfl rfl) ?_
        refine VO.y rfl (.pF rfl rfl) ?_
        refine VO.keep [102, 0] [(102, mone g1 (.cells [Value.int .i64 (d0.1), Value.int .i64 (d0.2.1), Value.int .u8 (d0.2.2.1), Value.int .i64 (d0.2.2.2.1), Value.slice p0_A4 (d0.2.2.2.2.1.length) (p0_c4), Value.int .i64 (d0.2.2.2.2.2.1), Value.int .i64 (d0.2.2.2.2.2.2.1), Value.slice p0_A7 (d0.2.2.2.2.2.2.2.length) (p0_c7)].toArray 26 (0, 0))), (0, wm W)] (by kernel_rfl) ?_
        refine VO.k7 0 1 2 3 5 6 49 ?_
        refine VC.cond rfl (fun hc7 => ?_) (fun hc7 => ?_)
        · -- TFFT
          refine VC.rs ?_
          refine VO.as ?_
          refine VO.k7 0 1 2 3 5 6 49 ?_
          refine VC.ret ?_
          refine outR ?_
          refine ⟨_, _, res_run (rs := [.tmp 2]) rfl (.tmp rfl .nil), fun W_ hI => out_of (l := []) hI [] rfl rfl (mle_refl _) (fun hS_ => ?_)⟩
          dsimp only [packV]
          all_goals (first | rfl | (congr 1; first | exact (lCheck_good ⟨by omega, .inl ⟨by omega, Decidable.not_not.1 ‹¬ ¬ helloM d0›⟩⟩).symm | exact (lCheck_good ⟨by omega, .inr (.inl ⟨by omega, Decidable.not_not.1 ‹¬ ¬ shipM d0›⟩)⟩).symm | exact (lCheck_good ⟨by omega, .inr (.inr ⟨by omega, (ack_iff (m := d0) ⟨by omega, by omega⟩).1 (Decidable.not_not.1 ‹¬ ¬ bareM _›)⟩)⟩).symm | exact (lCheck_bad (by rintro ⟨e0, e | e | e⟩ <;> first | omega | exact absurd e.2 (by assumption) | exact absurd ((ack_iff e.2.1).2 e.2) (by assumption) | (unfold ackM at e; omega))).symm))
        · -- TFFF
          refine VC.skip ?_
          refine outN ?_
          refine VC.rs ?_
          refine VO.as ?_
          refine VO.k7 0 1 2 3 5 6 49 ?_
          refine VC.ret ?_
          refine ⟨_, _, res_run (rs := [.tmp 2]) rfl (.tmp rfl .nil), fun W_ hI => out_of (l := []) hI [] rfl rfl (mle_refl _) (fun hS_ => ?_)⟩
          dsimp only [packV]
          all_goals (first | rfl | (congr 1; first | exact (lCheck_good ⟨by omega, .inl ⟨by omega, Decidable.not_not.1 ‹¬ ¬ helloM d0›⟩⟩).symm | exact (lCheck_good ⟨by omega, .inr (.inl ⟨by omega, Decidable.not_not.1 ‹¬ ¬ shipM d0›⟩)⟩).symm | exact (lCheck_good ⟨by omega, .inr (.inr ⟨by omega, (ack_iff (m := d0) ⟨by omega, by omega⟩).1 (Decidable.not_not.1 ‹¬ ¬ bareM _›)⟩)⟩).symm | exact (lCheck_bad (by rintro ⟨e0, e | e | e⟩ <;> first | omega | exact absurd e.2 (by assumption) | exact absurd ((ack_iff e.2.1).2 e.2) (by assumption) | (unfold ackM at e; omega))).symm))
  · -- F
    refine VC.rs ?_
    refine VO.y rfl (.eql rfl rfl) ?_
    refine VO.as ?_
    refine VO.k7 0 1 2 3 5 6 10 ?_
    refine VC.cond rfl (fun hc8 => ?_) (fun hc8 => ?_)
    · -- FT
      refine VC.reg ?_
      refine VO.y rfl (.ldA 102 rfl tk26 rfl (cellsAt_one rfl rfl)) ?_
      refine VO.callN 109 rfl fnOk41 rfl (fun W hW => shipped11_ok W (Rd.mono h0 (hW.at (i := 0) rfl))) (fun v9 m9 hv9 => ?_)
      subst hv9
      refine VO.as ?_
      refine VO.keep [102, 0] [(102, mone g1 (.cells [Value.int .i64 (d0.1), Value.int .i64 (d0.2.1), Value.int .u8 (d0.2.2.1), Value.int .i64 (d0.2.2.2.1), Value.slice p0_A4 (d0.2.2.2.2.1.length) (p0_c4), Value.int .i64 (d0.2.2.2.2.2.1), Value.int .i64 (d0.2.2.2.2.2.2.1), Value.slice p0_A7 (d0.2.2.2.2.2.2.2.length) (p0_c7)].toArray 26 (0, 0))), (0, wm W)] (by kernel_rfl) ?_
      refine VO.k7 0 1 2 3 5 6 10 ?_
      refine outBN ?_
      refine outN ?_
      refine VC.seq ?_
      refine VC.rs ?_
      refine VO.mv ?_
      refine VO.y rfl (.notD rfl) ?_
      refine VO.mv ?_
      refine VO.dec (t := 40) rfl (fun hc10 => ?_) (fun hc10 => ?_)
      · -- FTT
        refine VO.gN ?_
        refine VO.gN ?_
        refine VO.gN ?_
        refine VO.y rfl (.pT rfl rfl) ?_
        refine VO.mv ?_
        refine VO.gN ?_
        refine VO.gN ?_
        refine VO.gN ?_
        refine VO.y rfl (.pT rfl rfl) ?_
        refine VO.k8 0 1 2 3 5 6 10 49 ?_
        refine VC.condT rfl ?_
        refine VC.rs ?_
        refine VO.as ?_
        refine VO.k8 0 1 2 3 5 6 10 49 ?_
        refine VC.ret ?_
        refine outR ?_
        refine ⟨_, _, res_run (rs := [.tmp 2]) rfl (.tmp rfl .nil), fun W_ hI => out_of (l := []) hI [] rfl rfl (mle_refl _) (fun hS_ => ?_)⟩
        dsimp only [packV]
        all_goals (first | rfl | (congr 1; first | exact (lCheck_good ⟨by omega, .inl ⟨by omega, Decidable.not_not.1 ‹¬ ¬ helloM d0›⟩⟩).symm | exact (lCheck_good ⟨by omega, .inr (.inl ⟨by omega, Decidable.not_not.1 ‹¬ ¬ shipM d0›⟩)⟩).symm | exact (lCheck_good ⟨by omega, .inr (.inr ⟨by omega, (ack_iff (m := d0) ⟨by omega, by omega⟩).1 (Decidable.not_not.1 ‹¬ ¬ bareM _›)⟩)⟩).symm | exact (lCheck_bad (by rintro ⟨e0, e | e | e⟩ <;> first | omega | exact absurd e.2 (by assumption) | exact absurd ((ack_iff e.2.1).2 e.2) (by assumption) | (unfold ackM at e; omega))).symm))
      · -- FTF
        refine VO.gy rfl ⟨_, rfl, rfl⟩ (.fa rfl tst26 rfl) ?_
        refine VO.gy rfl ⟨_, rfl, rfl⟩ (.ld1 102 rfl tk3 rfl (cellsAt_one rfl rfl)) ?_
        refine VO.gy rfl ⟨_, rfl, rfl⟩ (.lss rfl rfl) ?_
        refine VO.y rfl (.pF rfl rfl) ?_
        refine VO.mv ?_
        refine VO.dec (t := 45) rfl (fun hc11 => ?_) (fun hc11 => ?_)
        · -- FTFT
          refine VO.gN ?_
          refine VO.gN ?_
          refine VO.gN ?_
          refine VO.y rfl (.pT rfl rfl) ?_
          refine VO.k8 0 1 2 3 5 6 10 49 ?_
          refine VC.condT rfl ?_
          refine VC.rs ?_
          refine VO.as ?_
          refine VO.k8 0 1 2 3 5 6 10 49 ?_
          refine VC.ret ?_
          refine outR ?_
          refine ⟨_, _, res_run (rs := [.tmp 2]) rfl (.tmp rfl .nil), fun W_ hI => out_of (l := []) hI [] rfl rfl (mle_refl _) (fun hS_ => ?_)⟩
          dsimp only [packV]
          all_goals (first | rfl | (congr 1; first | exact (lCheck_good ⟨by omega, .inl ⟨by omega, Decidable.not_not.1 ‹¬ ¬ helloM d0›⟩⟩).symm | exact (lCheck_good ⟨by omega, .inr (.inl ⟨by omega, Decidable.not_not.1 ‹¬ ¬ shipM d0›⟩)⟩).symm | exact (lCheck_good ⟨by omega, .inr (.inr ⟨by omega, (ack_iff (m := d0) ⟨by omega, by omega⟩).1 (Decidable.not_not.1 ‹¬ ¬ bareM _›)⟩)⟩).symm | exact (lCheck_bad (by rintro ⟨e0, e | e | e⟩ <;> first | omega | exact absurd e.2 (by assumption) | exact absurd ((ack_iff e.2.1).2 e.2) (by assumption) | (unfold ackM at e; omega))).symm))
        · -- FTFF
          refine VO.gy rfl ⟨_, rfl, rfl⟩ (.fa rfl tst26 rfl) ?_
          refine VO.gy rfl ⟨_, rfl, rfl⟩ (.ld1 102 rfl tk3 rfl (cellsAt_one rfl rfl)) ?_
          refine VO.gy rfl ⟨_, rfl, rfl⟩ (.gtr rfl rfl) ?_
          refine VO.y rfl (.pF rfl rfl) ?_
          refine VO.k8 0 1 2 3 5 6 10 49 ?_
          refine VC.cond rfl (fun hc12 => ?_) (fun hc12 => ?_)
          · -- FTFFT
            refine VC.rs ?_
            refine VO.as ?_
            refine VO.k8 0 1 2 3 5 6 10 49 ?_
            refine VC.ret ?_
            refine outR ?_
            refine ⟨_, _, res_run (rs := [.tmp 2]) rfl (.tmp rfl .nil), fun W_ hI => out_of (l := []) hI [] rfl rfl (mle_refl _) (fun hS_ => ?_)⟩
            dsimp only [packV]
            all_goals (first | rfl | (congr 1; first | exact (lCheck_good ⟨by omega, .inl ⟨by omega, Decidable.not_not.1 ‹¬ ¬ helloM d0›⟩⟩).symm | exact (lCheck_good ⟨by omega, .inr (.inl ⟨by omega, Decidable.not_not.1 ‹¬ ¬ shipM d0›⟩)⟩).symm | exact (lCheck_good ⟨by omega, .inr (.inr ⟨by omega, (ack_iff (m := d0) ⟨by omega, by omega⟩).1 (Decidable.not_not.1 ‹¬ ¬ bareM _›)⟩)⟩).symm | exact (lCheck_bad (by rintro ⟨e0, e | e | e⟩ <;> first | omega | exact absurd e.2 (by assumption) | exact absurd ((ack_iff e.2.1).2 e.2) (by assumption) | (unfold ackM at e; omega))).symm))
          · -- FTFFF
            refine VC.skip ?_
            refine outN ?_
            refine VC.rs ?_
            refine VO.as ?_
            refine VO.k8 0 1 2 3 5 6 10 49 ?_
            refine VC.ret ?_
            refine ⟨_, _, res_run (rs := [.tmp 2]) rfl (.tmp rfl .nil), fun W_ hI => out_of (l := []) hI [] rfl rfl (mle_refl _) (fun hS_ => ?_)⟩
            dsimp only [packV]
            all_goals (first | rfl | (congr 1; first | exact (lCheck_good ⟨by omega, .inl ⟨by omega, Decidable.not_not.1 ‹¬ ¬ helloM d0›⟩⟩).symm | exact (lCheck_good ⟨by omega, .inr (.inl ⟨by omega, Decidable.not_not.1 ‹¬ ¬ shipM d0›⟩)⟩).symm | exact (lCheck_good ⟨by omega, .inr (.inr ⟨by omega, (ack_iff (m := d0) ⟨by omega, by omega⟩).1 (Decidable.not_not.1 ‹¬ ¬ bareM _›)⟩)⟩).symm | exact (lCheck_bad (by rintro ⟨e0, e | e | e⟩ <;> first | omega | exact absurd e.2 (by assumption) | exact absurd ((ack_iff e.2.1).2 e.2) (by assumption) | (unfold ackM at e; omega))).symm))
    · -- FF
      refine VC.rs ?_
      refine VO.y rfl (.eql rfl rfl) ?_
      refine VO.as ?_
      refine VO.keep [102, 0] [(102, mone g1 (.cells [Value.int .i64 (d0.1), Value.int .i64 (d0.2.1), Value.int .u8 (d0.2.2.1), Value.int .i64 (d0.2.2.2.1), Value.slice p0_A4 (d0.2.2.2.2.1.length) (p0_c4), Value.int .i64 (d0.2.2.2.2.2.1), Value.int .i64 (d0.2.2.2.2.2.2.1), Value.slice p0_A7 (d0.2.2.2.2.2.2.2.length) (p0_c7)].toArray 26 (0, 0))), (0, wm W)] (by kernel_rfl) ?_
      refine VO.k8 0 1 2 3 5 6 10 14 ?_
      refine VC.cond rfl (fun hc13 => ?_) (fun hc13 => ?_)
      · -- FFT
        refine VC.reg ?_
        refine VO.y rfl (.fa rfl tst26 rfl) ?_
        refine VO.y rfl (.ld1 102 rfl tk3 rfl (cellsAt_one rfl rfl)) ?_
        refine VO.y rfl (.geq rfl rfl) ?_
        refine VO.mv ?_
        refine VO.dec (t := 19) rfl (fun hc14 => ?_) (fun hc14 => ?_)
        · -- FFTT
          refine VO.gy rfl ⟨_, rfl, rfl⟩ (.fa rfl tst26 rfl) ?_
          refine VO.gy rfl ⟨_, rfl, rfl⟩ (.ld1 102 rfl tk3 rfl (cellsAt_one rfl rfl)) ?_
          refine VO.gy rfl ⟨_, rfl, rfl⟩ (.leq rfl rfl) ?_
          refine VO.y rfl (.pT rfl rfl) ?_
          refine VO.mv ?_
          refine VO.dec (t := 24) rfl (fun hc15 => ?_) (fun hc15 => ?_)
          · -- FFTTT
            refine VO.gy rfl ⟨_, rfl, rfl⟩ (.fa rfl tst26 rfl) ?_
            refine VO.gy rfl ⟨_, rfl, rfl⟩ (.ld1 102 rfl tk22 rfl (cellsAt_one rfl rfl)) ?_
            refine VO.gy rfl ⟨_, rfl, rfl⟩ (.fa rfl tst26 rfl) ?_
            refine VO.gy rfl ⟨_, rfl, rfl⟩ (.ld1 102 rfl tk23 rfl (cellsAt_one rfl rfl)) ?_
            refine VO.gy rfl ⟨_, rfl, rfl⟩ (.fa rfl tst26 rfl) ?_
            refine VO.gy rfl ⟨_, rfl, rfl⟩ (.ld1 102 rfl tk3 rfl (cellsAt_one rfl rfl)) ?_
            refine VO.gy rfl ⟨_, rfl, rfl⟩ (.fa rfl tst26 rfl) ?_
            refine VO.gy rfl ⟨_, rfl, rfl⟩ (.ld1 102 rfl tk3 rfl (cellsAt_one rfl rfl)) ?_
            refine VO.gy rfl ⟨_, rfl, rfl⟩ (.fa rfl tst26 rfl) ?_
            refine VO.gy rfl ⟨_, rfl, rfl⟩ (.ld1 102 rfl tk24 rfl (cellsAt_one rfl rfl)) ?_
            refine VO.gy rfl ⟨_, rfl, rfl⟩ (.bst (cs := [Value.int .i64 (0), Value.int .i64 (0), Value.int .u8 (d0.2.2.1), Value.int .i64 (0), Value.slice p0_A4 (d0.2.2.2.2.1.length) (p0_c4), Value.int .i64 (d0.2.2.2.2.2.1), Value.int .i64 (d0.2.2.2.2.2.2.1), Value.slice p0_A7 (d0.2.2.2.2.2.2.2.length) (p0_c7)]) rfl tst26 tz26 rfl) ?_
            refine VO.gcallN 116 rfl ⟨_, rfl, rfl⟩ fnOk42 rfl (fun W hW => plain11_ok W (mk_Message (m := wm W) 0 0 d0.2.2.1 0 d0.2.2.2.2.1 d0.2.2.2.2.2.1 d0.2.2.2.2.2.2.1 d0.2.2.2.2.2.2.2 bdk bdk bdk bdk (Rd.mono p0_4 (hW.at (i := 0) rfl)) bdk bdk (Rd.mono p0_7 (hW.at (i := 0) rfl)))) (fun v16 m16 hv16 => ?_)
            try dsimp only at hv16
            subst hv16
            refine VO.y rfl (.pT rfl rfl) ?_
            refine VO.as ?_
            refine VO.k8 0 1 2 3 5 6 10 14 ?_
            refine outBN ?_
            refine outN ?_
            refine VC.seq ?_
            refine VC.rs ?_
            refine VO.mv ?_
            refine VO.y rfl (.notD rfl) ?_
            refine VO.mv ?_
            refine VO.dec (t := 40) rfl (fun hc17 => ?_) (fun hc17 => ?_)
            · -- FFTTTT
              refine VO.gN ?_
              refine VO.gN ?_
              refine VO.gN ?_
              refine VO.y rfl (.pT rfl rfl) ?_
              refine VO.mv ?_
              refine VO.gN ?_
              refine VO.gN ?_
              refine VO.gN ?_
              refine VO.y rfl (.pT rfl rfl) ?_
              refine VO.k9 0 1 2 3 5 6 10 14 49 ?_
              refine VC.condT rfl ?_
              refine VC.rs ?_
              refine VO.as ?_
              refine VO.keep [102, 0] [(102, mone g1 (.cells [Value.int .i64 (d0.1), Value.int .i64 (d0.2.1), Value.int .u8 (d0.2.2.1), Value.int .i64 (d0.2.2.2.1), Value.slice p0_A4 (d0.2.2.2.2.1.length) (p0_c4), Value.int .i64 (d0.2.2.2.2.2.1), Value.int .i64 (d0.2.2.2.2.2.2.1), Value.slice p0_A7 (d0.2.2.2.2.2.2.2.length) (p0_c7)].toArray 26 (0, 0))), (0, wm W)] (by kernel_rfl) ?_
              refine VO.k9 0 1 2 3 5 6 10 14 49 ?_
              refine VC.ret ?_
              refine outR ?_
              refine ⟨_, _, res_run (rs := [.tmp 2]) rfl (.tmp rfl .nil), fun W_ hI => out_of (l := []) hI [] rfl rfl (mle_refl _) (fun hS_ => ?_)⟩
              dsimp only [packV]
              all_goals (first | rfl | (congr 1; first | exact (lCheck_good ⟨by omega, .inl ⟨by omega, Decidable.not_not.1 ‹¬ ¬ helloM d0›⟩⟩).symm | exact (lCheck_good ⟨by omega, .inr (.inl ⟨by omega, Decidable.not_not.1 ‹¬ ¬ shipM d0›⟩)⟩).symm | exact (lCheck_good ⟨by omega, .inr (.inr ⟨by omega, (ack_iff (m := d0) ⟨by omega, by omega⟩).1 (Decidable.not_not.1 ‹¬ ¬ bareM _›)⟩)⟩).symm | exact (lCheck_bad (by rintro ⟨e0, e | e | e⟩ <;> first | omega | exact absurd e.2 (by assumption) | exact absurd ((ack_iff e.2.1).2 e.2) (by assumption) | (unfold ackM at e; omega))).symm))
            · -- FFTTTF
              refine VO.gy rfl ⟨_, rfl, rfl⟩ (.fa rfl tst26 rfl) ?_
              refine VO.gy rfl ⟨_, rfl, rfl⟩ (.ld1 102 rfl tk3 rfl (cellsAt_one rfl rfl)) ?_
              refine VO.gy rfl ⟨_, rfl, rfl⟩ (.lss rfl rfl) ?_
              refine VO.y rfl (.pF rfl rfl) ?_
              refine VO.mv ?_
              refine VO.dec (t := 45) rfl (fun hc18 => ?_) (fun hc18 => ?_)
              · -- FFTTTFT
                refine VO.gN ?_
                refine VO.gN ?_
                refine VO.gN ?_
                refine VO.y rfl (.pT rfl rfl) ?_
                refine VO.k9 0 1 2 3 5 6 10 14 49 ?_
                refine VC.condT rfl ?_
                refine VC.rs ?_
                refine VO.as ?_
                refine VO.keep [102, 0] [(102, mone g1 (.cells [Value.int .i64 (d0.1), Value.int .i64 (d0.2.1), Value.int .u8 (d0.2.2.1), Value.int .i64 (d0.2.2.2.1), Value.slice p0_A4 (d0.2.2.2.2.1.length) (p0_c4), Value.int .i64 (d0.2.2.2.2.2.1), Value.int .i64 (d0.2.2.2.2.2.2.1), Value.slice p0_A7 (d0.2.2.2.2.2.2.2.length) (p0_c7)].toArray 26 (0, 0))), (0, wm W)] (by kernel_rfl) ?_
                refine VO.k9 0 1 2 3 5 6 10 14 49 ?_
                refine VC.ret ?_
                refine outR ?_
                refine ⟨_, _, res_run (rs := [.tmp 2]) rfl (.tmp rfl .nil), fun W_ hI => out_of (l := []) hI [] rfl rfl (mle_refl _) (fun hS_ => ?_)⟩
                dsimp only [packV]
                all_goals (first | rfl | (congr 1; first | exact (lCheck_good ⟨by omega, .inl ⟨by omega, Decidable.not_not.1 ‹¬ ¬ helloM d0›⟩⟩).symm | exact (lCheck_good ⟨by omega, .inr (.inl ⟨by omega, Decidable.not_not.1 ‹¬ ¬ shipM d0›⟩)⟩).symm | exact (lCheck_good ⟨by omega, .inr (.inr ⟨by omega, (ack_iff (m := d0) ⟨by omega, by omega⟩).1 (Decidable.not_not.1 ‹¬ ¬ bareM _›)⟩)⟩).symm | exact (lCheck_bad (by rintro ⟨e0, e | e | e⟩ <;> first | omega | exact absurd e.2 (by assumption) | exact absurd ((ack_iff e.2.1).2 e.2) (by assumption) | (unfold ackM at e; omega))).symm))
              · -- FFTTTFF
                refine VO.gy rfl ⟨_, rfl, rfl⟩ (.fa rfl tst26 rfl) ?_
                refine VO.gy rfl ⟨_, rfl, rfl⟩ (.ld1 102 rfl tk3 rfl (cellsAt_one rfl rfl)) ?_
                refine VO.gy rfl ⟨_, rfl, rfl⟩ (.gtr rfl rfl) ?_
                refine VO.y rfl (.pF rfl rfl) ?_
                refine VO.k9 0 1 2 3 5 6 10 14 49 ?_
                refine VC.cond rfl (fun hc19 => ?_) (fun hc19 => ?_)
                · -- FFTTTFFT
                  refine VC.rs ?_
                  refine VO.as ?_
                  refine VO.keep [102, 0] [(102, mone g1 (.cells [Value.int .i64 (d0.1), Value.int .i64 (d0.2.1), Value.int .u8 (d0.2.2.1), Value.int .i64 (d0.2.2.2.1), Value.slice p0_A4 (d0.2.2.2.2.1.length) (p0_c4), Value.int .i64 (d0.2.2.2.2.2.1), Value.int .i64 (d0.2.2.2.2.2.2.1), Value.slice p0_A7 (d0.2.2.2.2.2.2.2.length) (p0_c7)].toArray 26 (0, 0))), (0, wm W)] (by kernel_rfl) ?_
                  refine VO.k9 0 1 2 3 5 6 10 14 49 ?_
                  refine VC.ret ?_
                  refine outR ?_
                  refine ⟨_, _, res_run (rs := [.tmp 2]) rfl (.tmp rfl .nil), fun W_ hI => out_of (l := []) hI [] rfl rfl (mle_refl _) (fun hS_ => ?_)⟩
                  dsimp only [packV]
                  all_goals (first | rfl | (congr 1; first | exact (lCheck_good ⟨by omega, .inl ⟨by omega, Decidable.not_not.1 ‹¬ ¬ helloM d0›⟩⟩).symm | exact (lCheck_good ⟨by omega, .inr (.inl ⟨by omega, Decidable.not_not.1 ‹¬ ¬ shipM d0›⟩)⟩).symm | exact (lCheck_good ⟨by omega, .inr (.inr ⟨by omega, (ack_iff (m := d0) ⟨by omega, by omega⟩).1 (Decidable.not_not.1 ‹¬ ¬ bareM _›)⟩)⟩).symm | exact (lCheck_bad (by rintro ⟨e0, e | e | e⟩ <;> first | omega | exact absurd e.2 (by assumption) | exact absurd ((ack_iff e.2.1).2 e.2) (by assumption) | (unfold ackM at e; omega))).symm))
                · -- FFTTTFFF
                  refine VC.skip ?_
                  refine outN ?_
                  refine VC.rs ?_
                  refine VO.as ?_
                  refine VO.keep [102, 0] [(102, mone g1 (.cells [Value.int .i64 (d0.1), Value.int .i64 (d0.2.1), Value.int .u8 (d0.2.2.1), Value.int .i64 (d0.2.2.2.1), Value.slice p0_A4 (d0.2.2.2.2.1.length) (p0_c4), Value.int .i64 (d0.2.2.2.2.2.1), Value.int .i64 (d0.2.2.2.2.2.2.1), Value.slice p0_A7 (d0.2.2.2.2.2.2.2.length) (p0_c7)].toArray 26 (0, 0))), (0, wm W)] (by kernel_rfl) ?_
                  refine VO.k9 0 1 2 3 5 6 10 14 49 ?_
                  refine VC.ret ?_
                  refine ⟨_, _, res_run (rs := [.tmp 2]) rfl (.tmp rfl .nil), fun W_ hI => out_of (l := []) hI [] rfl rfl (mle_refl _) (fun hS_ => ?_)⟩
                  dsimp only [packV]
                  all_goals (first | rfl | (congr 1; first | exact (lCheck_good ⟨by omega, .inl ⟨by omega, Decidable.not_not.1 ‹¬ ¬ helloM d0›⟩⟩).symm | exact (lCheck_good ⟨by omega, .inr (.inl ⟨by omega, Decidable.not_not.1 ‹¬ ¬ shipM d0›⟩)⟩).symm | exact (lCheck_good ⟨by omega, .inr (.inr ⟨by omega, (ack_iff (m := d0) ⟨by omega, by omega⟩).1 (Decidable.not_not.1 ‹¬ ¬ bareM _›)⟩)⟩).symm | exact (lCheck_bad (by rintro ⟨e0, e | e | e⟩ <;> first | omega | exact absurd e.2 (by assumption) | exact absurd ((ack_iff e.2.1).2 e.2) (by assumption) | (unfold ackM at e; omega))).symm))
          · -- FFTTF
            refine VO.gN ?_
            refine VO.gN ?_
            refine VO.gN ?_
            refine VO.gN ?_
            refine VO.gN ?_
            refine VO.gN ?_
            refine VO.gN ?_
            refine VO.gN ?_
            refine VO.gN ?_
            refine VO.gN ?_
            refine VO.gN ?_
            refine VO.gN ?_
            refine VO.y rfl (.pF rfl rfl) ?_
            refine VO.as ?_
            refine VO.k8 0 1 2 3 5 6 10 14 ?_
            refine outBN ?_
            refine outN ?_
            refine VC.seq ?_
            refine VC.rs ?_
            refine VO.mv ?_
            refine VO.y rfl (.not rfl) ?_
            refine VO.mv ?_
            refine VO.gN ?_
            refine VO.gN ?_
            refine VO.gN ?_
            refine VO.y rfl (.pT rfl rfl) ?_
            refine VO.mv ?_
            refine VO.gN ?_
            refine VO.gN ?_
            refine VO.gN ?_
            refine VO.y rfl (.pT rfl rfl) ?_
            refine VO.k9 0 1 2 3 5 6 10 14 49 ?_
            refine VC.condT rfl ?_
            refine VC.rs ?_
            refine VO.as ?_
            refine VO.keep [102, 0] [(102, mone g1 (.cells [Value.int .i64 (d0.1), Value.int .i64 (d0.2.1), Value.int .u8 (d0.2.2.1), Value.int .i64 (d0.2.2.2.1), Value.slice p0_A4 (d0.2.2.2.2.1.length) (p0_c4), Value.int .i64 (d0.2.2.2.2.2.1), Value.int .i64 (d0.2.2.2.2.2.2.1), Value.slice p0_A7 (d0.2.2.2.2.2.2.2.length) (p0_c7)].toArray 26 (0, 0))), (0, wm W)] (by kernel_rfl) ?_
            refine VO.k9 0 1 2 3 5 6 10 14 49 ?_
            refine VC.ret ?_
            refine outR ?_
            refine ⟨_, _, res_run (rs := [.tmp 2]) rfl (.tmp rfl .nil), fun W_ hI => out_of (l := []) hI [] rfl rfl (mle_refl _) (fun hS_ => ?_)⟩
            dsimp only [packV]
            all_goals (first | rfl | (congr 1; first | exact (lCheck_good ⟨by omega, .inl ⟨by omega, Decidable.not_not.1 ‹¬ ¬ helloM d0›⟩⟩).symm | exact (lCheck_good ⟨by omega, .inr (.inl ⟨by omega, Decidable.not_not.1 ‹¬ ¬ shipM d0›⟩)⟩).symm | exact (lCheck_good ⟨by omega, .inr (.inr ⟨by omega, (ack_iff (m := d0) ⟨by omega, by omega⟩).1 (Decidable.not_not.1 ‹¬ ¬ bareM _›)⟩)⟩).symm | exact (lCheck_bad (by rintro ⟨e0, e | e | e⟩ <;> first | omega | exact absurd e.2 (by assumption) | exact absurd ((ack_iff e.2.1).2 e.2) (by assumption) | (unfold ackM at e; omega))).symm))
        · -- FFTF
          refine VO.gN ?_
          refine VO.gN ?_
          refine VO.gN ?_
          refine VO.y rfl (.pF rfl rfl) ?_
          refine VO.mv ?_
          refine VO.gN ?_
          refine VO.gN ?_
          refine VO.gN ?_
          refine VO.gN ?_
          refine VO.gN ?_
          refine VO.gN ?_
          refine VO.gN ?_
          refine VO.gN ?_
          refine VO.gN ?_
          refine VO.gN ?_
          refine VO.gN ?_
          refine VO.gN ?_
          refine VO.y rfl (.pF rfl rfl) ?_
          refine VO.as ?_
          refine VO.k8 0 1 2 3 5 6 10 14 ?_
          refine outBN ?_
          refine outN ?_
          refine VC.seq ?_
          refine VC.rs ?_
          refine VO.mv ?_
          refine VO.y rfl (.not rfl) ?_
          refine VO.mv ?_
          refine VO.gN ?_
          refine VO.gN ?_
          refine VO.gN ?_
          refine VO.y rfl (.pT rfl rfl) ?_
          refine VO.mv ?_
          refine VO.gN ?_
          refine VO.gN ?_
          refine VO.gN ?_
          refine VO.y rfl (.pT rfl rfl) ?_
          refine VO.k9 0 1 2 3 5 6 10 14 49 ?_
          refine VC.condT rfl ?_
          refine VC.rs ?_
          refine VO.as ?_
          refine VO.keep [102, 0] [(102, mone g1 (.cells [Value.int .i64 (d0.1), Value.int .i64 (d0.2.1), Value.int .u8 (d0.2.2.1), Value.int .i64 (d0.2.2.2.1), Value.slice p0_A4 (d0.2.2.2.2.1.length) (p0_c4), Value.int .i64 (d0.2.2.2.2.2.1), Value.int .i64 (d0.2.2.2.2.2.2.1), Value.slice p0_A7 (d0.2.2.2.2.2.2.2.length) (p0_c7)].toArray 26 (0, 0))), (0, wm W)] (by kernel_rfl) ?_
          refine VO.k9 0 1 2 3 5 6 10 14 49 ?_
          refine VC.ret ?_
          refine outR ?_
          refine ⟨_, _, res_run (rs := [.tmp 2]) rfl (.tmp rfl .nil), fun W_ hI => out_of (l := []) hI [] rfl rfl (mle_refl _) (fun hS_ => ?_)⟩
          dsimp only [packV]
          all_goals (first | rfl | (congr 1; first | exact (lCheck_good ⟨by omega, .inl ⟨by omega, Decidable.not_not.1 ‹¬ ¬ helloM d0›⟩⟩).symm | exact (lCheck_good ⟨by omega, .inr (.inl ⟨by omega, Decidable.not_not.1 ‹¬ ¬ shipM d0›⟩)⟩).symm | exact (lCheck_good ⟨by omega, .inr (.inr ⟨by omega, (ack_iff (m := d0) ⟨by omega, by omega⟩).1 (Decidable.not_not.1 ‹¬ ¬ bareM _›)⟩)⟩).symm | exact (lCheck_bad (by rintro ⟨e0, e | e | e⟩ <;> first | omega | exact absurd e.2 (by assumption) | exact absurd ((ack_iff e.2.1).2 e.2) (by assumption) | (unfold ackM at e; omega))).symm))
      · -- FFF
        refine VC.skip ?_
        refine outBN ?_
        refine outN ?_
        refine VC.seq ?_
        refine VC.rs ?_
        refine VO.mv ?_
        refine VO.y rfl (.not rfl) ?_
        refine VO.mv ?_
        refine VO.gN ?_
        refine VO.gN ?_
        refine VO.gN ?_
        refine VO.y rfl (.pT rfl rfl) ?_
        refine VO.mv ?_
        refine VO.gN ?_
        refine VO.gN ?_
        refine VO.gN ?_
        refine VO.y rfl (.pT rfl rfl) ?_
        refine VO.k9 0 1 2 3 5 6 10 14 49 ?_
        refine VC.condT rfl ?_
        refine VC.rs ?_
        refine VO.as ?_
        refine VO.k9 0 1 2 3 5 6 10 14 49 ?_
        refine VC.ret ?_
        refine outR ?_
        refine ⟨_, _, res_run (rs := [.tmp 2]) rfl (.tmp rfl .nil), fun W_ hI => out_of (l := []) hI [] rfl rfl (mle_refl _) (fun hS_ => ?_)⟩
        dsimp only [packV]
        all_goals (first | rfl | (congr 1; first | exact (lCheck_good ⟨by omega, .inl ⟨by omega, Decidable.not_not.1 ‹¬ ¬ helloM d0›⟩⟩).symm | exact (lCheck_good ⟨by omega, .inr (.inl ⟨by omega, Decidable.not_not.1 ‹¬ ¬ shipM d0›⟩)⟩).symm | exact (lCheck_good ⟨by omega, .inr (.inr ⟨by omega, (ack_iff (m := d0) ⟨by omega, by omega⟩).1 (Decidable.not_not.1 ‹¬ ¬ bareM _›)⟩)⟩).symm | exact (lCheck_bad (by rintro ⟨e0, e | e | e⟩ <;> first | omega | exact absurd e.2 (by assumption) | exact absurd ((ack_iff e.2.1).2 e.2) (by assumption) | (unfold ackM at e; omega))).symm))
theorem CopyStarts_ok (W : World) {v0 : Value} {d0 : List DStart} (h0 : Rd (.sl TStart) (wm W) [v0] d0) (e0 : d0.length ≤ 8796093020000) : CallR Try.prog 61 [v0] W (mnil) (fun v m' => ∃ (s0 : Value), v = s0 ∧ Ow (.sl TStart) m' [s0] (d0)) := by
  obtain ⟨A0, c0, rfl, l0, k0⟩ := h0.slice
  simp only [maxLen] at k0
  refine CallR.ofA (n := 6) Try.func61 rfl rfl rfl ?_
  refine VC.rs ?_
  refine VO.as ?_
  refine VO.k2 0 2 ?_
  refine VC.rs ?_
  refine VO.bsl (cs := []) 102 rfl rfl tsl23 tz57 rfl rfl (fun g1 => ?_)
  refine VO.mv ?_
  have ho4 : OwnL TStart (mone g1 (.cells [].toArray 57 (0, 0))) mnil (Value.slice (some ⟨g1, 0, none⟩) (0) (0)) [] := OwnL.lit 0 All2c.nil rfl rfl
  obtain ⟨mo3, cs3, hM3, hA3, hC3⟩ := ho4
  obtain ⟨all3, hS3, hR3⟩ := Rd.srcI (P := Try.prog) (h0) Try.underlying23
  refine VO.app 102 rfl rfl rfl tsl23 tz57 rfl rfl hM3 hA3 (hS3 _ 0 rfl) hR3.nice bdm bd (by decide) (fun v3 m3 hN3 => ?_)
  have ho3 : OwnL TStart m3 mnil v3 (d0) := OwnL.more hC3 hN3 (All2c.mono hR3 fun _ _ h => Rd.flat rfl h _)
  obtain ⟨A3, c3, rfl, l3, k3⟩ := ho3.slice
  simp only [maxLen] at k3
  refine VO.as ?_
  refine VO.k2 0 2 ?_
  refine VC.ret ?_
  refine ⟨_, _, res_run (rs := [.tmp 2]) rfl (.tmp rfl .nil), fun W_ hI => out_of (l := [m3]) hI [102] rfl rfl (mle_refl _) (fun hS_ => ?_)⟩
  dsimp only [packV]
  have he0 : (d0 : Ty.Den (.sl TStart)) = d0 := by first | rfl | (simp [*]; done)
  refine ⟨Value.slice A3 ((d0).length) (c3), ?_, ?_⟩
  rotate_left
  · rw [he0]; exact (Ow.up (OwnL.ow ho3 rfl) (hS_.1 _ (.head _)))
  all_goals (first | rfl | (simp [*]; done))
theorem LentStarts_ok (W : World) {v0 : Value} {d0 : List DStart} (h0 : Rd (.sl TStart) (wm W) [v0] d0) (e0 : d0.length ≤ 8796093020000) : CallR Try.prog 29 [v0] W (mnil) (fun v m' => ∃ (s0 : Value), v = s0 ∧ Ow (.sl TStart) m' [s0] (d0 ++ spareS)) := by
  obtain ⟨A0, c0, rfl, l0, k0⟩ := h0.slice
  simp only [maxLen] at k0
  refine CallR.ofA (n := 17) Try.func29 rfl rfl rfl ?_
  refine VC.rs ?_
  refine VO.as ?_
  refine VO.k2 0 2 ?_
  refine VC.rs ?_
  refine VO.mv ?_
  refine VO.callN 101 rfl fnOk61 rfl (fun W hW => CopyStarts_ok W (Rd.mono h0 (hW.at (i := 0) rfl)) bd) (fun v1 m1 hv1 => ?_)
  obtain ⟨s1_0, rfl, f1_0⟩ := hv1
  obtain ⟨A1_0, c1_0, eq1_0, l1_0, k1_0⟩ := f1_0.slice
  subst eq1_0
  simp only [maxLen] at k1_0
  refine VO.as ?_
  refine VO.k3 0 2 3 ?_
  refine VC.seq ?_
  refine VC.rs ?_
  refine VO.as ?_
  refine VO.keep [101, 0] [(101, m1), (0, wm W)] (by kernel_rfl) ?_
  refine VO.k4 0 2 3 4 ?_
  refine VC.block ?_
  refine VC.loop (G := Nat × (List DStart) × (Option Addr) × Nat × Mem) (fun g => [(3, Value.slice (g.2.2.1) ((g.2.1).length) ((g.2.2.2.1))), (4, Value.int .i64 ((((g.1) : Nat) : Int))), (0, Value.slice A0 (d0.length) (c0)), (2, Value.slice none (0) (0))]) (fun g => [(101, (g.2.2.2.2)), (0, wm W)]) (fun g => ((g.1) ≤ 3) ∧ ((g.2.1) = d0 ++ spareS.take (g.1)) ∧ (OwnL TStart (g.2.2.2.2) mnil (.slice (g.2.2.1) (g.2.1).length (g.2.2.2.1)) (g.2.1))) (fun g => 3 - (g.1)) (0, d0, A1_0, c1_0, m1) (⟨by omega, by simp, (Ow.ownl f1_0 rfl mnil)⟩) ⟨⟨rfl, rfl, rfl, rfl, trivial⟩, fun _ h => h.sub [101, 0]⟩ ?_
  rintro ⟨k, out, out_A, out_c, out_m⟩ ⟨hk, ho, h_out⟩
  replace hk : k ≤ 3 := hk
  replace ho : out = d0 ++ spareS.take k := ho
  replace h_out : OwnL TStart out_m mnil (.slice out_A out.length out_c) out := h_out
  show VC _ _ _ _ _ [(3, Value.slice out_A (out.length) (out_c)), (4, Value.int .i64 (((k : Nat) : Int))), (0, Value.slice A0 (d0.length) (c0)), (2, Value.slice none (0) (0))] [(101, out_m), (0, wm W)]
  have l_out : out.length ≤ out_c := by obtain ⟨_, _, he, hl, _⟩ := h_out.slice; simp only [Value.slice.injEq] at he; omega
  have k_out : out_c ≤ 9223372036854775807 := by obtain ⟨_, _, he, _, hl⟩ := h_out.slice; simp only [Value.slice.injEq, maxLen] at he hl; omega
  have hlo : out.length ≤ d0.length + 3 := by rw [ho]; simp [spareS]; omega
  refine VC.seq ?_
  refine VC.rs ?_
  refine VO.mv ?_
  refine VO.y rfl (.lss rfl rfl) ?_
  refine VO.k5 0 2 3 4 8 ?_
  refine VC.cond rfl (fun hc2 => ?_) (fun hc2 => ?_)
  · -- T
    refine VC.skip ?_
    refine outN ?_
    refine VC.seq ?_
    refine VC.block ?_
    refine VC.reg ?_
    refine VO.mv ?_
    refine VO.mv ?_
    refine VO.y rfl (.bst (cs := [Value.int .i64 ((-5)), Value.int .i64 (((k : Nat) : Int))]) rfl tst57 tz57 rfl) ?_
    refine VO.bsl (cs := [Value.int .i64 ((-5)), Value.int .i64 (((k : Nat) : Int))]) 104 rfl rfl tsl23 tz57 rfl rfl (fun g3 => ?_)
    obtain ⟨mo5, cs5, hM5, hA5, hC5⟩ := h_out
    refine VO.app 101 rfl rfl rfl tsl23 tz57 rfl rfl hM5 hA5 (.row 104 _ _ _ 1 1 _ _ Try.underlying23 rfl (cellsAt_one rfl rfl)) (by simp [Value.oneCell']) bdm bd (by decide) (fun v5 m5 hN5 => ?_)
    have ho5 : OwnL TStart m5 mnil v5 (out ++ [((-5), ((k : Nat) : Int))]) := OwnL.one hC5 hN5 (mk_Start (m := _) (-5) ((k : Nat) : Int) bdk bdk)
    obtain ⟨A5, c5, rfl, l5, k5⟩ := ho5.slice
    simp only [maxLen] at k5
    refine VO.as ?_
    refine VO.k5 0 2 3 4 8 ?_
    refine outBN ?_
    refine outN ?_
    refine VC.reg ?_
    refine VO.mv ?_
    refine VO.y rfl (.add (c := ((k + 1 : Nat) : Int)) rfl rfl (by omega) ⟨bd, bd⟩) ?_
    refine VO.as ?_
    refine VO.keep [101, 0] [(101, m5), (0, wm W)] (by kernel_rfl) ?_
    refine VO.k5 0 2 3 4 8 ?_
    exact outN ⟨⟨k + 1, out ++ [((-5), ((k : Nat) : Int))], A5, c5, m5⟩, ⟨by omega, by exact spareS_next ho (by omega), ho5⟩, bd, ⟨⟨rfl, rfl, rfl, rfl, trivial⟩, fun _ h => Inv.sub h [101, 0]⟩⟩
  · -- F
    refine VC.exit ?_
    refine outE ?_
    refine outE ?_
    refine outBB ?_
    refine outN ?_
    refine VC.rs ?_
    refine VO.mv ?_
    refine VO.as ?_
    refine VO.k5 0 2 3 4 8 ?_
    refine VC.ret ?_
    refine ⟨_, _, res_run (rs := [.tmp 2]) rfl (.tmp rfl .nil), fun W_ hI => out_of (l := [out_m]) hI [101] rfl rfl (mle_refl _) (fun hS_ => ?_)⟩
    dsimp only [packV]
    have he0 : (d0 ++ spareS : Ty.Den (.sl TStart)) = out := by first | rfl | (have : k = 3 := (by omega); subst this; exact ho.symm)
    refine ⟨Value.slice out_A (out.length) (out_c), ?_, ?_⟩
    rotate_left
    · rw [he0]; exact (Ow.up (OwnL.ow h_out rfl) (hS_.1 _ (.head _)))
    all_goals (first | rfl | (simp [*]; done))
theorem KeptStarts_ok (W : World) {v0 : Value} {d0 : List DStart} (h0 : Rd (.sl TStart) (wm W) [v0] d0) {v1 : Value} {d1 : List DStart} (h1 : Rd (.sl TStart) (wm W) [v1] d1) (e0 : d1.length ≤ 8796093020000) : CallR Try.prog 47 [v0, v1] W (mnil) (fun v m' => v = .bool (decide (d0 = d1 ++ spareS))) := by
  obtain ⟨A0, c0, rfl, l0, k0⟩ := h0.slice
  simp only [maxLen] at k0
  obtain ⟨A1, c1, rfl, l1, k1⟩ := h1.slice
  simp only [maxLen] at k1
  refine CallR.ofA (n := 9) Try.func47 rfl rfl rfl ?_
  refine VC.rs ?_
  refine VO.as ?_
  refine VO.k3 0 1 4 ?_
  refine VC.rs ?_
  refine VO.mv ?_
  refine VO.mv ?_
  refine VO.callN 101 rfl fnOk29 rfl (fun W hW => LentStarts_ok W (Rd.mono h1 (hW.at (i := 0) rfl)) bd) (fun v1 m1 hv1 => ?_)
  obtain ⟨s1_0, rfl, f1_0⟩ := hv1
  obtain ⟨A1_0, c1_0, eq1_0, l1_0, k1_0⟩ := f1_0.slice
  subst eq1_0
  simp only [maxLen] at k1_0
  refine VO.callN 102 rfl fnOk55 rfl (fun W hW => SameStarts_ok W (Rd.mono h0 (hW.at (i := 0) rfl)) (OwnL.rd (Ow.ownl f1_0 rfl mnil) (hW.at (i := 101) rfl) (mle_nil _))) (fun v2 m2 hv2 => ?_)
  subst hv2
  refine VO.as ?_
  refine VO.k3 0 1 4 ?_
  refine VC.ret ?_
  refine ⟨_, _, res_run (rs := [.tmp 4]) rfl (.tmp rfl .nil), fun W_ hI => out_of (l := []) hI [] rfl rfl (mle_refl _) (fun hS_ => ?_)⟩
  dsimp only [packV]
  all_goals (first | rfl | (rfl))
theorem LentMessage_ok (W : World) {v0 : List Value} {d0 : DMessage} (h0 : Rd TMessage (wm W) v0 d0) (e0 : d0.2.2.2.2.1.length ≤ 8796093020000) (e1 : d0.2.2.2.2.2.2.2.length ≤ 3518437200000) (e2 : ∀ c ∈ d0.2.2.2.2.2.2.2, c.2.2.length ≤ 3518437208800) : CallR Try.prog 10 [.agg v0.toArray] W (mnil) (fun v m' => ∃ (s0 : List Value), v = .agg s0.toArray ∧ Ow TLMessage m' s0 (lentM d0)) := by
  obtain ⟨p0_A4, p0_c4, p0_A7, p0_c7, rfl, p0_0, p0_1, p0_2, p0_3, p0_4, p0_5, p0_6, p0_7⟩ := open_Message (x0 := d0.1) (x1 := d0.2.1) (x2 := d0.2.2.1) (x3 := d0.2.2.2.1) (x4 := d0.2.2.2.2.1) (x5 := d0.2.2.2.2.2.1) (x6 := d0.2.2.2.2.2.2.1) (x7 := d0.2.2.2.2.2.2.2) h0
  simp only [inK] at p0_0
  simp only [inK] at p0_1
  simp only [inK] at p0_2
  simp only [inK] at p0_3
  have p0_r4 := Rd.room p0_4
  simp only [inK] at p0_5
  simp only [inK] at p0_6
  have p0_r7 := Rd.room p0_7
  refine CallR.ofA (n := 20) Try.func10 rfl rfl rfl ?_
  refine VC.rs ?_
  refine VO.box (cs := [Value.int .i64 (d0.1), Value.int .i64 (d0.2.1), Value.int .u8 (d0.2.2.1), Value.int .i64 (d0.2.2.2.1), Value.slice p0_A4 (d0.2.2.2.2.1.length) (p0_c4), Value.int .i64 (d0.2.2.2.2.2.1), Value.int .i64 (d0.2.2.2.2.2.2.1), Value.slice p0_A7 (d0.2.2.2.2.2.2.2.length) (p0_c7)]) 102 rfl rfl rfl (fun g1 => ?_)
  refine VO.alloc 104 rfl tz26 (fun g3 => ?_)
  refine VO.k3 0 1 2 ?_
  refine VC.seq ?_
  refine VC.regD _ 6 [(0, true), (1, true), (3, true), (4, true), (5, true), (2, false)] follows (by kernel_rfl) (fun _ h => h.sub [104, 102, 0]) ?_
  refine VD.y rfl rfl (.inl rfl) (.fa rfl tst26 rfl) ?_
  refine VD.y rfl rfl (.inl rfl) (.ld1 102 rfl tk23 rfl (cellsAt_one rfl rfl)) ?_
  refine VD.y rfl rfl (.inl rfl) (.fa rfl tst26 rfl) ?_
  refine VD.y rfl rfl (.inl rfl) (.ld1 102 rfl tk23 rfl (cellsAt_one rfl rfl)) ?_
  refine VD.y rfl rfl (.inl rfl) (.lenS rfl tsl23) ?_
  refine VD.callN 105 rfl rfl (.inl rfl) fnOk29 rfl (fun _ h => h.sub [104, 102, 0]) (fun W hW => LentStarts_ok W (Rd.mono p0_4 (hW.at (i := 0) rfl)) bd) (fun v5 m5 hv5 => ?_)
  obtain ⟨s5_0, rfl, f5_0⟩ := hv5
  obtain ⟨A5_0, c5_0, eq5_0, l5_0, k5_0⟩ := f5_0.slice
  subst eq5_0
  simp only [maxLen] at k5_0
  refine VD.nil rfl ?_ rfl
  have hs6 := (OwnL.rd (Ow.ownl f5_0 rfl mnil) (mle_refl _) (mle_nil _)).pre (j := d0.2.2.2.2.1.length) bd
  rw [List.take_left] at hs6
  refine VO.y rfl (.slHI d0.2.2.2.2.1.length rfl rfl tsl23 rfl bd) ?_
  refine VO.y rfl (.fa rfl tst26 rfl) ?_
  refine VO.store (k := 1) (c' := [Value.int .i64 (d0.1), Value.int .i64 (d0.2.1), Value.int .u8 (d0.2.2.1), Value.int .i64 (d0.2.2.2.1), Value.slice A5_0 (d0.2.2.2.2.1.length) (c5_0), Value.int .i64 (d0.2.2.2.2.2.1), Value.int .i64 (d0.2.2.2.2.2.2.1), Value.slice p0_A7 (d0.2.2.2.2.2.2.2.length) (p0_c7)]) 102 rfl rfl (.inr ⟨tk23, rfl⟩) rfl rfl rfl rfl rfl ?_
  refine VO.k3 0 1 2 ?_
  refine outN ?_
  refine VC.seq ?_
  refine VC.regD _ 6 [(0, true), (1, true), (3, true), (4, true), (5, true), (2, false)] follows (by kernel_rfl) (fun _ h => h.sub [105, 104, 102, 0]) ?_
  refine VD.y rfl rfl (.inl rfl) (.fa rfl tst26 rfl) ?_
  refine VD.y rfl rfl (.inl rfl) (.ld1 102 rfl tk24 rfl (cellsAt_one rfl rfl)) ?_
  refine VD.y rfl rfl (.inl rfl) (.fa rfl tst26 rfl) ?_
  refine VD.y rfl rfl (.inl rfl) (.ld1 102 rfl tk24 rfl (cellsAt_one rfl rfl)) ?_
  refine VD.y rfl rfl (.inl rfl) (.lenS rfl tsl24) ?_
  refine VD.callN 107 rfl rfl (.inl rfl) fnOk30 rfl (fun _ h => h.sub [105, 104, 102, 0]) (fun W hW => LentCommits_ok W (Rd.mono p0_7 (hW.at (i := 0) rfl)) bd (by assumption)) (fun v7 m7 hv7 => ?_)
  obtain ⟨s7_0, rfl, f7_0⟩ := hv7
  have hfa8 := lent_len d0.2.2.2.2.2.2.2
  obtain ⟨A7_0, c7_0, eq7_0, l7_0, k7_0⟩ := f7_0.slice
  subst eq7_0
  simp only [maxLen] at k7_0
  refine VD.nil rfl ?_ rfl
  have hs9 := (Ow.rd f7_0 (mle_refl _)).pre (j := d0.2.2.2.2.2.2.2.length) bd
  refine VO.y rfl (.slHI d0.2.2.2.2.2.2.2.length rfl rfl tsl24 rfl bd) ?_
  refine VO.y rfl (.fa rfl tst26 rfl) ?_
  refine VO.store (k := 1) (c' := [Value.int .i64 (d0.1), Value.int .i64 (d0.2.1), Value.int .u8 (d0.2.2.1), Value.int .i64 (d0.2.2.2.1), Value.slice A5_0 (d0.2.2.2.2.1.length) (c5_0), Value.int .i64 (d0.2.2.2.2.2.1), Value.int .i64 (d0.2.2.2.2.2.2.1), Value.slice A7_0 (d0.2.2.2.2.2.2.2.length) (c7_0)]) 102 rfl rfl (.inr ⟨tk24, rfl⟩) rfl rfl rfl rfl rfl ?_
  refine VO.keep [107, 105, 104, 102, 0] [(107, m7), (105, m5), (104, mone g3 (.cells [Value.int .i64 (0), Value.int .i64 (0), Value.int .u8 (0), Value.int .i64 (0), Value.slice none (0) (0), Value.int .i64 (0), Value.int .i64 (0), Value.slice none (0) (0)].toArray 26 (0, 0))), (102, mone g1 (.cells [Value.int .i64 (d0.1), Value.int .i64 (d0.2.1), Value.int .u8 (d0.2.2.1), Value.int .i64 (d0.2.2.2.1), Value.slice A5_0 (d0.2.2.2.2.1.length) (c5_0), Value.int .i64 (d0.2.2.2.2.2.1), Value.int .i64 (d0.2.2.2.2.2.2.1), Value.slice A7_0 (d0.2.2.2.2.2.2.2.length) (c7_0)].toArray 26 (0, 0))), (0, wm W)] (by kernel_rfl) ?_
  refine VO.k3 0 1 2 ?_
  refine outN ?_
  refine VC.rs ?_
  refine VO.y rfl (.ldA 102 rfl tk26 rfl (cellsAt_one rfl rfl)) ?_
  refine VO.store (k := 8) (c' := [Value.int .i64 (d0.1), Value.int .i64 (d0.2.1), Value.int .u8 (d0.2.2.1), Value.int .i64 (d0.2.2.2.1), Value.slice A5_0 (d0.2.2.2.2.1.length) (c5_0), Value.int .i64 (d0.2.2.2.2.2.1), Value.int .i64 (d0.2.2.2.2.2.2.1), Value.slice A7_0 (d0.2.2.2.2.2.2.2.length) (c7_0)]) 104 rfl rfl (.inl tk26) rfl rfl rfl rfl rfl ?_
  refine VO.k3 0 1 2 ?_
  refine VC.ret ?_
  refine ⟨_, _, res_run (rs := [.cell 2 26]) rfl (.agg 104 rfl tk26 rfl ⟨_, _, _, mone_self _ _, Nat.le_of_ble_eq_true rfl, rfl⟩ .nil), fun W_ hI => out_of (l := [m5, m7]) hI [105, 107] rfl rfl (mle_refl _) (fun hS_ => ?_)⟩
  dsimp only [packV]
  have he0 : (lentM d0 : Ty.Den TLMessage) = (d0.1, d0.2.1, d0.2.2.1, d0.2.2.2.1, (d0.2.2.2.2.1, spareS), d0.2.2.2.2.2.1, d0.2.2.2.2.2.2.1, (d0.2.2.2.2.2.2.2.map lentC, spareC)) := by first | rfl | (simp [*]; done)
  refine ⟨[Value.int .i64 (d0.1), Value.int .i64 (d0.2.1), Value.int .u8 (d0.2.2.1), Value.int .i64 (d0.2.2.2.1), Value.slice A5_0 (d0.2.2.2.2.1.length) (c5_0), Value.int .i64 (d0.2.2.2.2.2.1), Value.int .i64 (d0.2.2.2.2.2.2.1), Value.slice A7_0 (d0.2.2.2.2.2.2.2.length) (c7_0)], ?_, ?_⟩
  rotate_left
  · rw [he0]; exact (mkO_LMessage d0.1 d0.2.1 d0.2.2.1 d0.2.2.2.1 (d0.2.2.2.2.1, spareS) d0.2.2.2.2.2.1 d0.2.2.2.2.2.2.1 (d0.2.2.2.2.2.2.2.map lentC, spareC) hS_ bdk bdk bdk bdk (Ow.mkSpl (e := TStart) (xs := d0.2.2.2.2.1) (ys := spareS) (OwnL.ow (Ow.ownl f5_0 rfl mnil) rfl) (by first | rfl | simp)) bdk bdk (Ow.mkSpl (e := TLCommit) (xs := (d0.2.2.2.2.2.2.2.map lentC)) (ys := spareC) f7_0 (by first | rfl | simp)))
  all_goals (first | rfl | (simp [*]; done))
theorem KeptMessage_ok (W : World) {v0 : List Value} {d0 : DLMessage} (h0 : Rd TLMessage (wm W) v0 d0) {v1 : List Value} {d1 : DMessage} (h1 : Rd TMessage (wm W) v1 d1) (e0 : d0 = lentM d1) (e1 : d1.2.2.2.2.1.length ≤ 8796093020000) (e2 : d1.2.2.2.2.2.2.2.length ≤ 3518437200000) (e3 : ∀ c ∈ d1.2.2.2.2.2.2.2, c.2.2.length ≤ 3518437208800) : CallR Try.prog 18 [.agg v0.toArray, .agg v1.toArray] W (mnil) (fun v m' => v = .bool true) := by
  have ea : (d0.2.2.2.2.1.1 ++ d0.2.2.2.2.1.2).length = d1.2.2.2.2.1.length + 3 := (by rw [e0]; simp [lentM, spareS]); have eb : (d0.2.2.2.2.2.2.2.1 ++ d0.2.2.2.2.2.2.2.2).length = d1.2.2.2.2.2.2.2.length + 3 := (by rw [e0]; simp [lentM, spareC])
  obtain ⟨p0_A4, p0_c4, p0_A7, p0_c7, rfl, p0_0, p0_1, p0_2, p0_3, p0_4, p0_5, p0_6, p0_7⟩ := open_LMessage (x0 := d0.1) (x1 := d0.2.1) (x2 := d0.2.2.1) (x3 := d0.2.2.2.1) (x4 := d0.2.2.2.2.1) (x5 := d0.2.2.2.2.2.1) (x6 := d0.2.2.2.2.2.2.1) (x7 := d0.2.2.2.2.2.2.2) h0
  simp only [inK] at p0_0
  simp only [inK] at p0_1
  simp only [inK] at p0_2
  simp only [inK] at p0_3
  have p0_f4 := (Rd.full p0_4).2
  have p0_s4 := Rd.pre2 p0_f4
  have p0_r4 := Rd.room p0_f4
  simp only [inK] at p0_5
  simp only [inK] at p0_6
  have p0_f7 := (Rd.full p0_7).2
  have p0_s7 := Rd.pre2 p0_f7
  have p0_r7 := Rd.room p0_f7
  obtain ⟨p1_A4, p1_c4, p1_A7, p1_c7, rfl, p1_0, p1_1, p1_2, p1_3, p1_4, p1_5, p1_6, p1_7⟩ := open_Message (x0 := d1.1) (x1 := d1.2.1) (x2 := d1.2.2.1) (x3 := d1.2.2.2.1) (x4 := d1.2.2.2.2.1) (x5 := d1.2.2.2.2.2.1) (x6 := d1.2.2.2.2.2.2.1) (x7 := d1.2.2.2.2.2.2.2) h1
  simp only [inK] at p1_0
  simp only [inK] at p1_1
  simp only [inK] at p1_2
  simp only [inK] at p1_3
  have p1_r4 := Rd.room p1_4
  simp only [inK] at p1_5
  simp only [inK] at p1_6
  have p1_r7 := Rd.room p1_7
  refine CallR.ofA (n := 31) Try.func18 rfl rfl rfl ?_
  refine VC.rs ?_
  refine VO.box (cs := [Value.int .i64 (d0.1), Value.int .i64 (d0.2.1), Value.int .u8 (d0.2.2.1), Value.int .i64 (d0.2.2.2.1), Value.slice p0_A4 (d0.2.2.2.2.1.1.length) (p0_c4), Value.int .i64 (d0.2.2.2.2.2.1), Value.int .i64 (d0.2.2.2.2.2.2.1), Value.slice p0_A7 (d0.2.2.2.2.2.2.2.1.length) (p0_c7)]) 102 rfl rfl rfl (fun g1 => ?_)
  refine VO.box (cs := [Value.int .i64 (d1.1), Value.int .i64 (d1.2.1), Value.int .u8 (d1.2.2.1), Value.int .i64 (d1.2.2.2.1), Value.slice p1_A4 (d1.2.2.2.2.1.length) (p1_c4), Value.int .i64 (d1.2.2.2.2.2.1), Value.int .i64 (d1.2.2.2.2.2.2.1), Value.slice p1_A7 (d1.2.2.2.2.2.2.2.length) (p1_c7)]) 104 rfl rfl rfl (fun g3 => ?_)
  refine VO.as ?_
  refine VO.k5 0 1 2 3 4 ?_
  refine VC.seq ?_
  refine VC.rs ?_
  refine VO.y rfl (.ldA 102 rfl tk26 rfl (cellsAt_one rfl rfl)) ?_
  refine VO.y rfl (.ldA 104 rfl tk26 rfl (cellsAt_one rfl rfl)) ?_
  refine VO.callN 105 rfl fnOk23 rfl (fun W hW => SameMessage_ok W (mk_Message (m := wm W) d0.1 d0.2.1 d0.2.2.1 d0.2.2.2.1 d0.2.2.2.2.1.1 d0.2.2.2.2.2.1 d0.2.2.2.2.2.2.1 (d0.2.2.2.2.2.2.2.1.map fgC) bdk bdk bdk bdk (Rd.mono p0_s4 (hW.at (i := 0) rfl)) bdk bdk (fgC_rd (Rd.mono p0_s7 (hW.at (i := 0) rfl)))) (Rd.mono h1 (hW.at (i := 0) rfl))) (fun v5 m5 hv5 => ?_)
  try dsimp only at hv5
  subst hv5
  refine VO.y rfl (.notD rfl) ?_
  refine VO.k6 0 1 2 3 4 8 ?_
  refine VC.cond rfl (fun hc6 => ?_) (fun hc6 => ?_)
  · -- T
    exact absurd (by rw [e0]; exact lentM_fg d1) hc6
  · -- F
    refine VC.skip ?_
    refine outN ?_
    refine VC.seq ?_
    refine VC.regD _ 20 [(0, true), (1, true), (2, true), (3, true), (4, true), (5, true), (6, true), (7, true), (8, true), (9, false), (10, true), (11, true), (12, true), (13, true), (14, true), (15, true), (16, true), (17, true), (18, true), (19, true)] follows (by kernel_rfl) (fun _ h => h.sub [105, 104, 102, 0]) ?_
    refine VD.y rfl rfl (.inl rfl) (.fa rfl tst26 rfl) ?_
    refine VD.y rfl rfl (.inl rfl) (.ld1 102 rfl tk23 rfl (cellsAt_one rfl rfl)) ?_
    refine VD.y rfl rfl (.inl rfl) (.fa rfl tst26 rfl) ?_
    refine VD.y rfl rfl (.inl rfl) (.ld1 104 rfl tk23 rfl (cellsAt_one rfl rfl)) ?_
    refine VD.y rfl rfl (.inl rfl) (.lenS rfl tsl23) ?_
    refine VD.y rfl rfl (.inl rfl) (.add (c := ((d1.2.2.2.2.1.length + 3 : Nat) : Int)) rfl rfl (by omega) ⟨bd, bd⟩) ?_
    have hs7 := p0_f4.pre (j := (d1.2.2.2.2.1.length + 3)) bd
    refine VD.y rfl rfl (.inl rfl) (.slHI (d1.2.2.2.2.1.length + 3) rfl rfl tsl23 rfl bd) ?_
    refine VD.y rfl rfl (.inl rfl) (.fa rfl tst26 rfl) ?_
    refine VD.y rfl rfl (.inl rfl) (.ld1 104 rfl tk23 rfl (cellsAt_one rfl rfl)) ?_
    refine VD.callN 108 rfl rfl (.inl rfl) fnOk47 rfl (fun _ h => h.sub [105, 104, 102, 0]) (fun W hW => KeptStarts_ok W (Rd.mono hs7 (hW.at (i := 0) rfl)) (Rd.mono p1_4 (hW.at (i := 0) rfl)) bd) (fun v8 m8 hv8 => ?_)
    subst hv8
    refine VD.y rfl rfl (.inl rfl) (.mv rfl) ?_
    refine VD.dec (s := 19) rfl (fun hc9 => ?_) (fun hc9 => ?_)
    · -- FT
      refine VD.y rfl rfl (.inr ⟨_, _, rfl, _, rfl, rfl⟩) (.fa rfl tst26 rfl) ?_
      refine VD.y rfl rfl (.inr ⟨_, _, rfl, _, rfl, rfl⟩) (.ld1 102 rfl tk24 rfl (cellsAt_one rfl rfl)) ?_
      refine VD.y rfl rfl (.inr ⟨_, _, rfl, _, rfl, rfl⟩) (.fa rfl tst26 rfl) ?_
      refine VD.y rfl rfl (.inr ⟨_, _, rfl, _, rfl, rfl⟩) (.ld1 104 rfl tk24 rfl (cellsAt_one rfl rfl)) ?_
      refine VD.y rfl rfl (.inr ⟨_, _, rfl, _, rfl, rfl⟩) (.lenS rfl tsl24) ?_
      refine VD.y rfl rfl (.inr ⟨_, _, rfl, _, rfl, rfl⟩) (.add (c := ((d1.2.2.2.2.2.2.2.length + 3 : Nat) : Int)) rfl rfl (by omega) ⟨bd, bd⟩) ?_
      have hs10 := p0_f7.pre (j := (d1.2.2.2.2.2.2.2.length + 3)) bd
      refine VD.y rfl rfl (.inr ⟨_, _, rfl, _, rfl, rfl⟩) (.slHI (d1.2.2.2.2.2.2.2.length + 3) rfl rfl tsl24 rfl bd) ?_
      refine VD.y rfl rfl (.inr ⟨_, _, rfl, _, rfl, rfl⟩) (.fa rfl tst26 rfl) ?_
      refine VD.y rfl rfl (.inr ⟨_, _, rfl, _, rfl, rfl⟩) (.ld1 104 rfl tk24 rfl (cellsAt_one rfl rfl)) ?_
      refine VD.nil rfl ?_ rfl
      refine VO.gcallN 111 rfl ⟨_, rfl, rfl⟩ fnOk48 rfl (fun W hW => KeptCommits_ok W (Rd.mono hs10 (hW.at (i := 0) rfl)) (Rd.mono p1_7 (hW.at (i := 0) rfl)) (by rw [e0]; exact lent_whole _) bd (by assumption)) (fun v11 m11 hv11 => ?_)
      subst hv11
      refine VO.y rfl (.pT rfl rfl) ?_
      refine VO.as ?_
      refine VO.keep [104, 102, 0] [(104, mone g3 (.cells [Value.int .i64 (d1.1), Value.int .i64 (d1.2.1), Value.int .u8 (d1.2.2.1), Value.int .i64 (d1.2.2.2.1), Value.slice p1_A4 (d1.2.2.2.2.1.length) (p1_c4), Value.int .i64 (d1.2.2.2.2.2.1), Value.int .i64 (d1.2.2.2.2.2.2.1), Value.slice p1_A7 (d1.2.2.2.2.2.2.2.length) (p1_c7)].toArray 26 (0, 0))), (102, mone g1 (.cells [Value.int .i64 (d0.1), Value.int .i64 (d0.2.1), Value.int .u8 (d0.2.2.1), Value.int .i64 (d0.2.2.2.1), Value.slice p0_A4 (d0.2.2.2.2.1.1.length) (p0_c4), Value.int .i64 (d0.2.2.2.2.2.1), Value.int .i64 (d0.2.2.2.2.2.2.1), Value.slice p0_A7 (d0.2.2.2.2.2.2.2.1.length) (p0_c7)].toArray 26 (0, 0))), (0, wm W)] (by kernel_rfl) ?_
      refine VO.k6 0 1 2 3 4 8 ?_
      refine outN ?_
      refine VC.ret ?_
      refine ⟨_, _, res_run (rs := [.tmp 4]) rfl (.tmp rfl .nil), fun W_ hI => out_of (l := []) hI [] rfl rfl (mle_refl _) (fun hS_ => ?_)⟩
      dsimp only [packV]
      all_goals (first | rfl | (simp [*]; done))
    · -- FF
      exact absurd (by rw [e0]; exact lentS_whole _) hc9
end
section
set_option linter.unusedVariables false
def putAll : List Int → Bytes
  | [] => []
  | x :: r => venc x.toNat ++ putAll r
theorem putAll_app : ∀ (a b : List Int), putAll (a ++ b) = putAll a ++ putAll b
  | [], _ => rfl
  | x :: r, b => by rw [List.cons_append, putAll, putAll, putAll_app r b, List.append_assoc]
theorem putAll_next {l : List Int} {d b : Bytes} {k : Nat} {x : Int} (h : b = d ++ putAll (l.take k)) (hx : l[k]? = some x) : b ++ venc x.toNat = d ++ putAll (l.take (k + 1)) := by
  rw [take_one hx, putAll_app, h, List.append_assoc]
  congr 1
  simp [putAll]
theorem putAll_len : ∀ {l : List Int}, (∀ x ∈ l, x < 18446744073709551616) → (putAll l).length ≤ 10 * l.length
  | [], _ => Nat.zero_le _
  | x :: r, h => by
    have h1 := venc_len (x := x.toNat) (by have := h x (.head _); omega)
    have h2 := putAll_len fun y hy => h y (.tail _ hy)
    rw [putAll, List.length_append, List.length_cons]; omega
def sEnc : List DStart → Bytes
  | [] => []
  | s :: r => venc s.1.toNat ++ (venc s.2.toNat ++ sEnc r)
def csEnc : List DCommit → Bytes
  | [] => []
  | c :: r => venc (cEnc c).length ++ (cEnc c ++ csEnc r)
theorem sEnc_app : ∀ (a b : List DStart), sEnc (a ++ b) = sEnc a ++ sEnc b
  | [], _ => rfl
  | x :: r, b => by rw [List.cons_append, sEnc, sEnc, sEnc_app r b]; simp only [List.append_assoc]
theorem csEnc_app : ∀ (a b : List DCommit), csEnc (a ++ b) = csEnc a ++ csEnc b
  | [], _ => rfl
  | x :: r, b => by rw [List.cons_append, csEnc, csEnc, csEnc_app r b]; simp only [List.append_assoc]
def lBody (m : DMessage) : Bytes :=
  if m.1 = 1 then venc m.2.2.1.toNat ++ (venc m.2.2.2.1.toNat ++ (venc m.2.2.2.2.1.length ++ sEnc m.2.2.2.2.1))
  else if m.1 = 2 then venc m.2.2.2.2.2.1.toNat ++ (venc m.2.2.2.2.2.2.1.toNat ++ (venc m.2.2.2.2.2.2.2.length ++ csEnc m.2.2.2.2.2.2.2)) else venc m.2.2.2.1.toNat
def lEnc (m : DMessage) : Bytes := venc m.1.toNat ++ (venc m.2.1.toNat ++ lBody m)
def lEncode (m : DMessage) : Bytes × Int := if lCheck m = 0 then (lEnc m, 0) else ([], lCheck m)
theorem start_eq {x y : DStart} (h : x.1 = y.1 ∧ x.2 = y.2) : x = y := Prod.ext h.1 h.2
theorem start_ne {x y : DStart} (h : ¬ (x.1 = y.1 ∧ x.2 = y.2)) : ¬ x = y := fun e => h (by rw [e]; exact ⟨rfl, rfl⟩)
theorem start_all {a b : List DStart} {k : Nat} (h : a.take k = b.take k) (ha : ¬ (k : Int) < a.length) (hl : (a.length : Int) = b.length) : a = b := take_all h ha hl
theorem sGo_facts {en : Int} : ∀ {l : List DStart} {le lf : Int} {i : Nat}, sGo en le lf i l → 0 ≤ le → le ≤ 1048576 → 0 ≤ lf → en ≤ 1048576 → le + (l.length : Int) ≤ 1048576 ∧ ∀ s ∈ l, (1 ≤ s.1 ∧ s.1 ≤ 1048576) ∧ 1 ≤ s.2 ∧ s.2 ≤ 1048576
  | [], le, lf, i, _, h0, h1, _, _ => ⟨by simp; omega, fun s h => by cases h⟩
  | x :: r, le, lf, i, h, h0, h1, h2, h3 => by
    obtain ⟨k1, k2, k3, k4, k5, k6⟩ := h
    obtain ⟨q1, q2⟩ := sGo_facts k6 (by omega) k2 (by omega) h3
    refine ⟨by simp only [List.length_cons]; omega, fun s hs => ?_⟩
    rcases List.mem_cons.1 hs with rfl | hs
    · exact ⟨⟨by omega, by omega⟩, by omega, by omega⟩
    · exact q2 s hs
section
variable {m : DMessage}
theorem lc_nums (h : lCheck m = 0) : 1 ≤ m.1 ∧ m.1 ≤ 3 ∧ 1 ≤ m.2.1 ∧ m.2.1 ≤ 1048576 := by
  unfold lCheck at h
  split at h
  · rename_i hh
    rcases hh.2 with ⟨a, _⟩ | ⟨a, _⟩ | ⟨a, _⟩ <;> omega
  · cases h
theorem lc_hello (h : lCheck m = 0) (k : m.1 = 1) : (1 ≤ m.2.2.1 ∧ m.2.2.1 ≤ 3) ∧ (0 ≤ m.2.2.2.1 ∧ m.2.2.2.1 ≤ 1048576) ∧ m.2.2.2.2.1.length ≤ 1048576 ∧ (∀ s ∈ m.2.2.2.2.1, (1 ≤ s.1 ∧ s.1 ≤ 1048576) ∧ 1 ≤ s.2 ∧ s.2 ≤ 1048576) ∧
    m.2.2.2.2.2.1 = 0 ∧ m.2.2.2.2.2.2.1 = 0 ∧ m.2.2.2.2.2.2.2 = [] := by
  unfold lCheck at h
  split at h
  · rename_i hh
    rcases hh.2 with ⟨_, b⟩ | ⟨a, _⟩ | ⟨a, _⟩
    · obtain ⟨b1, b2, b3, b4, b5, b6⟩ := b
      unfold sCheck at b2
      split at b2
      · rename_i hq
        obtain ⟨q1, q2⟩ := sGo_facts hq.2.2.2 (by omega) (by omega) (by omega) hq.2.1
        exact ⟨b1, ⟨hq.1, hq.2.1⟩, by omega, q2, b4, b5, List.eq_nil_of_length_eq_zero b6⟩
      · cases b2
    · omega
    · omega
  · cases h
theorem lc_ack (h : lCheck m = 0) (k1 : ¬ m.1 = 1) (k2 : ¬ m.1 = 2) : ackM m ∧ m.1 = 3 := by
  unfold lCheck at h
  split at h
  · rename_i hh
    rcases hh.2 with ⟨a, _⟩ | ⟨a, _⟩ | ⟨a, b⟩
    · omega
    · omega
    · exact ⟨b, a⟩
  · cases h
theorem cEnc_len {c : DCommit} (h : cCheck c = 0) : (cEnc c).length ≤ 700 := by
  have := cEncode_len c
  unfold cEncode at this
  rw [if_pos h] at this
  exact this
end
def lHd (m : DMessage) : Bytes := venc m.1.toNat ++ (venc m.2.1.toNat ++ (venc m.2.2.1.toNat ++ (venc m.2.2.2.1.toNat ++ venc m.2.2.2.2.1.length)))
def lHs (m : DMessage) : Bytes := venc m.1.toNat ++ (venc m.2.1.toNat ++ (venc m.2.2.2.2.2.1.toNat ++ (venc m.2.2.2.2.2.2.1.toNat ++ venc m.2.2.2.2.2.2.2.length)))
theorem lEncode_bad {m : DMessage} (h : ¬ lCheck m = 0) : lEncode m = ([], lCheck m) := if_neg h
theorem lEncode_hello {m : DMessage} (h : lCheck m = 0) (k : m.1 = 1) : lEncode m = (lHd m ++ sEnc m.2.2.2.2.1, 0) := by
  unfold lEncode; rw [if_pos h, lEnc, lBody, if_pos k, lHd]; simp only [List.append_assoc]
theorem lEncode_ship {m : DMessage} (h : lCheck m = 0) (k1 : ¬ m.1 = 1) (k : m.1 = 2) : lEncode m = (lHs m ++ csEnc m.2.2.2.2.2.2.2, 0) := by
  unfold lEncode; rw [if_pos h, lEnc, lBody, if_neg k1, if_pos k, lHs]; simp only [List.append_assoc]
theorem lEncode_ack {m : DMessage} (h : lCheck m = 0) (k1 : ¬ m.1 = 1) (k : ¬ m.1 = 2) : lEncode m = (venc m.1.toNat ++ (venc m.2.1.toNat ++ venc m.2.2.2.1.toNat), 0) := by
  unfold lEncode; rw [if_pos h, lEnc, lBody, if_neg k1, if_neg k]
theorem cEncode_is {c : DCommit} (h : cCheck c = 0) : cEncode c = (cEnc c, 0) := if_pos h
theorem sEnc_len : ∀ {l : List DStart}, (∀ s ∈ l, (1 ≤ s.1 ∧ s.1 ≤ 1048576) ∧ 1 ≤ s.2 ∧ s.2 ≤ 1048576) → (sEnc l).length ≤ 20 * l.length
  | [], _ => Nat.zero_le _
  | s :: l, h => by
    obtain ⟨⟨h1, h2⟩, h3, h4⟩ := h s (.head _)
    have := venc_len (x := s.1.toNat) (by omega)
    have := venc_len (x := s.2.toNat) (by omega)
    have := sEnc_len fun x hx => h x (.tail _ hx)
    rw [sEnc, List.length_append, List.length_append, List.length_cons]; omega
theorem csEnc_len : ∀ {l : List DCommit}, (∀ c ∈ l, cCheck c = 0) → (csEnc l).length ≤ 710 * l.length
  | [], _ => Nat.zero_le _
  | c :: l, h => by
    have h1 := cEnc_len (h c (.head _))
    have := venc_len (x := (cEnc c).length) (by omega)
    have := csEnc_len fun x hx => h x (.tail _ hx)
    rw [csEnc, List.length_append, List.length_append, List.length_cons]; omega
theorem lEnc_len {m : DMessage} (h : lCheck m = 0) : (lEnc m).length ≤ 20971600 + 3000 := by
  obtain ⟨c1, c2, c3, c4⟩ := lc_nums h
  have a1 := venc_len (x := m.1.toNat) (by omega)
  have a2 := venc_len (x := m.2.1.toNat) (by omega)
  have hb : (lBody m).length ≤ 20971550 + 2900 := by
    by_cases k1 : m.1 = 1
    · obtain ⟨⟨r1, r2⟩, ⟨r3, r4⟩, r5, r6, _⟩ := lc_hello h k1
      have b1 := venc_len (x := m.2.2.1.toNat) (by omega)
      have b2 := venc_len (x := m.2.2.2.1.toNat) (by omega)
      have b3 := venc_len (x := m.2.2.2.2.1.length) (by omega)
      have b4 := sEnc_len r6
      rw [lBody, if_pos k1]; simp only [List.length_append]; omega
    · by_cases k2 : m.1 = 2
      · obtain ⟨⟨r1, r2⟩, ⟨r3, r4⟩, r5, r6, r7, _⟩ := lCheck_ship h k2
        have b1 := venc_len (x := m.2.2.2.2.2.1.toNat) (by omega)
        have b2 := venc_len (x := m.2.2.2.2.2.2.1.toNat) (by omega)
        have b3 := venc_len (x := m.2.2.2.2.2.2.2.length) (by omega)
        have b4 := csEnc_len (cFollowsAt_ok r7)
        rw [lBody, if_neg k1, if_pos k2]; simp only [List.length_append]; omega
      · obtain ⟨⟨⟨r1, r2⟩, _⟩, _⟩ := lc_ack h k1 k2
        have b1 := venc_len (x := m.2.2.2.1.toNat) (by omega)
        rw [lBody, if_neg k1, if_neg k2]; omega
  rw [lEnc, List.length_append, List.length_append]; omega
theorem lHd_len {m : DMessage} (h : lCheck m = 0) (k : m.1 = 1) : (lHd m).length ≤ 50 := by
  obtain ⟨c1, c2, c3, c4⟩ := lc_nums h
  obtain ⟨⟨r1, r2⟩, ⟨r3, r4⟩, r5, r6, _⟩ := lc_hello h k
  have := venc_len (x := m.1.toNat) (by omega)
  have := venc_len (x := m.2.1.toNat) (by omega)
  have := venc_len (x := m.2.2.1.toNat) (by omega)
  have := venc_len (x := m.2.2.2.1.toNat) (by omega)
  have := venc_len (x := m.2.2.2.2.1.length) (by omega)
  rw [lHd]; simp only [List.length_append]; omega
theorem lHs_len {m : DMessage} (h : lCheck m = 0) (k : m.1 = 2) : (lHs m).length ≤ 50 := by
  obtain ⟨c1, c2, c3, c4⟩ := lc_nums h
  obtain ⟨⟨r1, r2⟩, ⟨r3, r4⟩, r5, r6, r7, _⟩ := lCheck_ship h k
  have := venc_len (x := m.1.toNat) (by omega)
  have := venc_len (x := m.2.1.toNat) (by omega)
  have := venc_len (x := m.2.2.2.2.2.1.toNat) (by omega)
  have := venc_len (x := m.2.2.2.2.2.2.1.toNat) (by omega)
  have := venc_len (x := m.2.2.2.2.2.2.2.length) (by omega)
  rw [lHs]; simp only [List.length_append]; omega
theorem hd_room {m : DMessage} {b : Bytes} {k : Nat} (h : lCheck m = 0) (k1 : m.1 = 1) (hb : b = lHd m ++ sEnc (m.2.2.2.2.1.take k)) : b.length ≤ 50 + 20 * k := by
  have h1 := lHd_len h k1
  have h2 := sEnc_len fun s hs => (lc_hello h k1).2.2.2.1 s (List.mem_of_mem_take (i := k) hs)
  simp only [List.length_take] at h2
  rw [hb, List.length_append]; omega
theorem hs_room {m : DMessage} {b : Bytes} {k : Nat} (h : lCheck m = 0) (k1 : m.1 = 2) (hb : b = lHs m ++ csEnc (m.2.2.2.2.2.2.2.take k)) : b.length ≤ 50 + 710 * k := by
  have h1 := lHs_len h k1
  have h2 := csEnc_len fun c hc => cFollowsAt_ok (lCheck_ship h k1).2.2.2.2.1 c (List.mem_of_mem_take (i := k) hc)
  simp only [List.length_take] at h2
  rw [hb, List.length_append]; omega
theorem ship_nums {m : DMessage} (h : lCheck m = 0) (k : m.1 = 2) : (1 ≤ m.2.2.2.2.2.1 ∧ m.2.2.2.2.2.1 ≤ 1048576) ∧ (0 ≤ m.2.2.2.2.2.2.1 ∧ m.2.2.2.2.2.2.1 ≤ 1048576) ∧ m.2.2.2.2.2.2.2.length ≤ 4 := by
  obtain ⟨r1, ⟨r3, r4⟩, r5, r6, r7, _⟩ := lCheck_ship h k
  have := lc_nums h
  exact ⟨r1, ⟨r3, by omega⟩, r6⟩
theorem start_of {m : DMessage} (h : lCheck m = 0) (k1 : m.1 = 1) {k : Nat} {s : DStart} (hs : m.2.2.2.2.1[k]? = some s) : (1 ≤ s.1 ∧ s.1 ≤ 1048576) ∧ 1 ≤ s.2 ∧ s.2 ≤ 1048576 := (lc_hello h k1).2.2.2.1 s (List.mem_of_getElem? hs)
theorem comm_of {m : DMessage} (h : lCheck m = 0) (k1 : m.1 = 2) {k : Nat} {c : DCommit} (hc : m.2.2.2.2.2.2.2[k]? = some c) : cCheck c = 0 := cFollowsAt_ok (lCheck_ship h k1).2.2.2.2.1 c (List.mem_of_getElem? hc)
theorem lEncode_len (m : DMessage) : (lEncode m).1.length ≤ 20974600 := by
  unfold lEncode
  split
  · exact lEnc_len (by assumption)
  · exact Nat.zero_le _
end
section
set_option linter.unusedVariables false
abbrev TBuf : Ty := (.sl .byte)
abbrev DBuf := (List UInt8)
instance decBuf : DecidableEq DBuf := inferInstance
theorem openO_Buf {m : Mem} {cs : List Value} {x0 : List UInt8} (h : Ow TBuf m cs x0) : ∃ (A0 : Option Addr), ∃ (c0 : Nat), ∃ (n0 : Mem), cs = [(.slice A0 x0.length c0 : Value)] ∧ Seps m [n0] ∧ Ow (.sl .byte) n0 [.slice A0 x0.length c0] x0 := by
  have z1 := h
  obtain ⟨A1, c1, rfl, _⟩ := Ow.slice1 h
  exact ⟨A1, c1, _, rfl, Seps.one (mle_refl _), z1⟩
theorem mkO_Buf {m : Mem} {n0 : Mem} (x0 : List UInt8) (hS : Seps m [n0]) {v0 : Value} (h0 : Ow (.sl .byte) n0 [v0] x0) : Ow TBuf m [v0] x0 := by
  exact (h0.up (hS.1 _ (.head _)))
theorem openP_Buf {m : Mem} {cs : List Value} {g : Nat} {x0 : List UInt8} (h : Ow (.ptr TBuf) m cs (g, x0)) : ∃ (E : TypeId), ∃ (A0 : Option Addr), ∃ (c0 : Nat), ∃ (n0 : Mem), cs = [.pointer (some ⟨g, 0, none⟩)] ∧ Seps m [mone g (.cells [(.slice A0 x0.length c0 : Value)].toArray E (0, 0)), n0] ∧ Ow (.sl .byte) n0 [.slice A0 x0.length c0] x0 := by
  obtain ⟨rfl, rc, E, m1, hd, l0, l1, h1⟩ := Ow.opnP h
  obtain ⟨A0, c0, n0, rfl, hS, f0⟩ := openO_Buf h1
  exact ⟨E, A0, c0, n0, rfl, Seps.app hd l0 l1 (Seps.one (mle_refl _)) hS, f0⟩
theorem mkP_Buf {m : Mem} {g : Nat} {E : TypeId} {n0 : Mem}{v0 : Value} (x0 : List UInt8) (hS : Seps m [mone g (.cells [v0].toArray E (0, 0)), n0]) (h0 : Ow (.sl .byte) n0 [v0] x0) : Ow (.ptr TBuf) m [.pointer (some ⟨g, 0, none⟩)] (g, x0) :=
  Ow.clsP hS fun hS => mkO_Buf x0 hS h0
end
end Go.Proofs.Ytcikgnbpcombpaa
