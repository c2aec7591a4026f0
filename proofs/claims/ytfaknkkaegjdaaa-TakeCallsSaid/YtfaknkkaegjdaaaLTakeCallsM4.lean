/- Part 4 of the proof of LTakeCalls: what it needs of the library, the walks and the plain laws. Conditions: those named in each theorem. -/
import Derived.Test.YtfaknkkaegjdaaaLTakeCallsM3
namespace Go.Proofs.Ytfaknkkaegjdaaa
section
set_option linter.unusedVariables false
set_option linter.unusedSimpArgs false
set_option maxRecDepth 4000
theorem fnOk120 : fnOk Try.prog 120 = true := by kernel_rfl
theorem fnOk121 : fnOk Try.prog 121 = true := by kernel_rfl
theorem fnOk122 : fnOk Try.prog 122 = true := by kernel_rfl
theorem fnOk123 : fnOk Try.prog 123 = true := by kernel_rfl
theorem fnOk142 : fnOk Try.prog 142 = true := by kernel_rfl
theorem fnOk143 : fnOk Try.prog 143 = true := by kernel_rfl
theorem fnOk144 : fnOk Try.prog 144 = true := by kernel_rfl
theorem fnOk145 : fnOk Try.prog 145 = true := by kernel_rfl
theorem fnOk149 : fnOk Try.prog 149 = true := by kernel_rfl
theorem plain11_ok (W : World) {v0 : List Value} {d0 : DMessage} (h0 : Rd TMessage (wm W) v0 d0) : CallR Try.prog 145 [.agg v0.toArray] W (mnil) (fun v m' => v = .bool (decide (bareM d0))) := by
  obtain ⟨p0_A4, p0_c4, p0_A7, p0_c7, rfl, p0_0, p0_1, p0_2, p0_3, p0_4, p0_5, p0_6, p0_7⟩ := open_Message (x0 := d0.1) (x1 := d0.2.1) (x2 := d0.2.2.1) (x3 := d0.2.2.2.1) (x4 := d0.2.2.2.2.1) (x5 := d0.2.2.2.2.2.1) (x6 := d0.2.2.2.2.2.2.1) (x7 := d0.2.2.2.2.2.2.2) h0
  simp only [inK] at p0_0
  simp only [inK] at p0_1
  simp only [inK] at p0_2
  simp only [inK] at p0_3
  have p0_r4 := Rd.room p0_4
  simp only [inK] at p0_5
  simp only [inK] at p0_6
  have p0_r7 := Rd.room p0_7
  refine CallR.ofA (n := 33) Try.func145 rfl rfl rfl ?_
  refine VC.rs ?_
  refine VO.box (cs := [Value.int .i64 (d0.1), Value.int .i64 (d0.2.1), Value.int .u8 (d0.2.2.1), Value.int .i64 (d0.2.2.2.1), Value.slice p0_A4 (d0.2.2.2.2.1.length) (p0_c4), Value.int .i64 (d0.2.2.2.2.2.1), Value.int .i64 (d0.2.2.2.2.2.2.1), Value.slice p0_A7 (d0.2.2.2.2.2.2.2.length) (p0_c7)]) 102 rfl rfl rfl (fun g1 => ?_)
  refine VO.as ?_
  refine VO.k3 0 1 2 ?_
  refine VC.rs ?_
  refine VO.y rfl (.fa rfl tst72 rfl) ?_
  refine VO.y rfl (.ld1 102 rfl tk69 rfl (cellsAt_one rfl rfl)) ?_
  refine VO.y rfl (.eql rfl rfl) ?_
  refine VO.mv ?_
  refine VO.dec (t := 6) rfl (fun hc3 => ?_) (fun hc3 => ?_)
  · -- T
    refine VO.gy rfl ⟨_, rfl, rfl⟩ (.fa rfl tst72 rfl) ?_
    refine VO.gy rfl ⟨_, rfl, rfl⟩ (.ld1 102 rfl tk3 rfl (cellsAt_one rfl rfl)) ?_
    refine VO.gy rfl ⟨_, rfl, rfl⟩ (.eql rfl rfl) ?_
    refine VO.y rfl (.pT rfl rfl) ?_
    refine VO.mv ?_
    refine VO.dec (t := 11) rfl (fun hc4 => ?_) (fun hc4 => ?_)
    · -- TT
      refine VO.gy rfl ⟨_, rfl, rfl⟩ (.fa rfl tst72 rfl) ?_
      refine VO.gy rfl ⟨_, rfl, rfl⟩ (.ld1 102 rfl tk70 rfl (cellsAt_one rfl rfl)) ?_
      refine VO.gy rfl ⟨_, rfl, rfl⟩ (.lenS rfl tsl70) ?_
      refine VO.gy rfl ⟨_, rfl, rfl⟩ (.eql rfl rfl) ?_
      refine VO.y rfl (.pT rfl rfl) ?_
      refine VO.mv ?_
      refine VO.dec (t := 17) rfl (fun hc5 => ?_) (fun hc5 => ?_)
      · -- TTT
        refine VO.gy rfl ⟨_, rfl, rfl⟩ (.fa rfl tst72 rfl) ?_
        refine VO.gy rfl ⟨_, rfl, rfl⟩ (.ld1 102 rfl tk3 rfl (cellsAt_one rfl rfl)) ?_
        refine VO.gy rfl ⟨_, rfl, rfl⟩ (.eql rfl rfl) ?_
        refine VO.y rfl (.pT rfl rfl) ?_
        refine VO.mv ?_
        refine VO.dec (t := 22) rfl (fun hc6 => ?_) (fun hc6 => ?_)
        · -- TTTT
          refine VO.gy rfl ⟨_, rfl, rfl⟩ (.fa rfl tst72 rfl) ?_
          refine VO.gy rfl ⟨_, rfl, rfl⟩ (.ld1 102 rfl tk3 rfl (cellsAt_one rfl rfl)) ?_
          refine VO.gy rfl ⟨_, rfl, rfl⟩ (.eql rfl rfl) ?_
          refine VO.y rfl (.pT rfl rfl) ?_
          refine VO.mv ?_
          refine VO.dec (t := 27) rfl (fun hc7 => ?_) (fun hc7 => ?_)
          · -- TTTTT
            refine VO.gy rfl ⟨_, rfl, rfl⟩ (.fa rfl tst72 rfl) ?_
            refine VO.gy rfl ⟨_, rfl, rfl⟩ (.ld1 102 rfl tk61 rfl (cellsAt_one rfl rfl)) ?_
            refine VO.gy rfl ⟨_, rfl, rfl⟩ (.lenS rfl tsl61) ?_
            refine VO.gy rfl ⟨_, rfl, rfl⟩ (.eql rfl rfl) ?_
            refine VO.y rfl (.pT rfl rfl) ?_
            refine VO.as ?_
            refine VO.k3 0 1 2 ?_
            refine VC.ret ?_
            refine ⟨_, _, res_run (rs := [.tmp 2]) rfl (.tmp rfl .nil), fun W_ hI => out_of (l := []) hI [] rfl rfl (mle_refl _) (fun hS_ => ?_)⟩
            dsimp only [packV]
            all_goals (first | rfl | (first | exact congrArg Value.bool (decide_eq_false (by unfold bareM; omega)).symm | exact congrArg Value.bool (decide_eq_decide.2 (by unfold bareM; omega))))
          · -- TTTTF
            refine VO.gN ?_
            refine VO.gN ?_
            refine VO.gN ?_
            refine VO.gN ?_
            refine VO.y rfl (.pF rfl rfl) ?_
            refine VO.as ?_
            refine VO.k3 0 1 2 ?_
            refine VC.ret ?_
            refine ⟨_, _, res_run (rs := [.tmp 2]) rfl (.tmp rfl .nil), fun W_ hI => out_of (l := []) hI [] rfl rfl (mle_refl _) (fun hS_ => ?_)⟩
            dsimp only [packV]
            all_goals (first | rfl | (first | exact congrArg Value.bool (decide_eq_false (by unfold bareM; omega)).symm | exact congrArg Value.bool (decide_eq_decide.2 (by unfold bareM; omega))))
        · -- TTTF
          refine VO.gN ?_
          refine VO.gN ?_
          refine VO.gN ?_
          refine VO.y rfl (.pF rfl rfl) ?_
          refine VO.mv ?_
          refine VO.gN ?_
          refine VO.gN ?_
          refine VO.gN ?_
          refine VO.gN ?_
          refine VO.y rfl (.pF rfl rfl) ?_
          refine VO.as ?_
          refine VO.k3 0 1 2 ?_
          refine VC.ret ?_
          refine ⟨_, _, res_run (rs := [.tmp 2]) rfl (.tmp rfl .nil), fun W_ hI => out_of (l := []) hI [] rfl rfl (mle_refl _) (fun hS_ => ?_)⟩
          dsimp only [packV]
          all_goals (first | rfl | (first | exact congrArg Value.bool (decide_eq_false (by unfold bareM; omega)).symm | exact congrArg Value.bool (decide_eq_decide.2 (by unfold bareM; omega))))
      · -- TTF
        refine VO.gN ?_
        refine VO.gN ?_
        refine VO.gN ?_
        refine VO.y rfl (.pF rfl rfl) ?_
        refine VO.mv ?_
        refine VO.gN ?_
        refine VO.gN ?_
        refine VO.gN ?_
        refine VO.y rfl (.pF rfl rfl) ?_
        refine VO.mv ?_
        refine VO.gN ?_
        refine VO.gN ?_
        refine VO.gN ?_
        refine VO.gN ?_
        refine VO.y rfl (.pF rfl rfl) ?_
        refine VO.as ?_
        refine VO.k3 0 1 2 ?_
        refine VC.ret ?_
        refine ⟨_, _, res_run (rs := [.tmp 2]) rfl (.tmp rfl .nil), fun W_ hI => out_of (l := []) hI [] rfl rfl (mle_refl _) (fun hS_ => ?_)⟩
        dsimp only [packV]
        all_goals (first | rfl | (first | exact congrArg Value.bool (decide_eq_false (by unfold bareM; omega)).symm | exact congrArg Value.bool (decide_eq_decide.2 (by unfold bareM; omega))))
    · -- TF
      refine VO.gN ?_
      refine VO.gN ?_
      refine VO.gN ?_
      refine VO.gN ?_
      refine VO.y rfl (.pF rfl rfl) ?_
      refine VO.mv ?_
      refine VO.gN ?_
      refine VO.gN ?_
      refine VO.gN ?_
      refine VO.y rfl (.pF rfl rfl) ?_
      refine VO.mv ?_
      refine VO.gN ?_
      refine VO.gN ?_
      refine VO.gN ?_
      refine VO.y rfl (.pF rfl rfl) ?_
      refine VO.mv ?_
      refine VO.gN ?_
      refine VO.gN ?_
      refine VO.gN ?_
      refine VO.gN ?_
      refine VO.y rfl (.pF rfl rfl) ?_
      refine VO.as ?_
      refine VO.k3 0 1 2 ?_
      refine VC.ret ?_
      refine ⟨_, _, res_run (rs := [.tmp 2]) rfl (.tmp rfl .nil), fun W_ hI => out_of (l := []) hI [] rfl rfl (mle_refl _) (fun hS_ => ?_)⟩
      dsimp only [packV]
      all_goals (first | rfl | (first | exact congrArg Value.bool (decide_eq_false (by unfold bareM; omega)).symm | exact congrArg Value.bool (decide_eq_decide.2 (by unfold bareM; omega))))
  · -- F
    refine VO.gN ?_
    refine VO.gN ?_
    refine VO.gN ?_
    refine VO.y rfl (.pF rfl rfl) ?_
    refine VO.mv ?_
    refine VO.gN ?_
    refine VO.gN ?_
    refine VO.gN ?_
    refine VO.gN ?_
    refine VO.y rfl (.pF rfl rfl) ?_
    refine VO.mv ?_
    refine VO.gN ?_
    refine VO.gN ?_
    refine VO.gN ?_
    refine VO.y rfl (.pF rfl rfl) ?_
    refine VO.mv ?_
    refine VO.gN ?_
    refine VO.gN ?_
    refine VO.gN ?_
    refine VO.y rfl (.pF rfl rfl) ?_
    refine VO.mv ?_
    refine VO.gN ?_
    refine VO.gN ?_
    refine VO.gN ?_
    refine VO.gN ?_
    refine VO.y rfl (.pF rfl rfl) ?_
    refine VO.as ?_
    refine VO.k3 0 1 2 ?_
    refine VC.ret ?_
    refine ⟨_, _, res_run (rs := [.tmp 2]) rfl (.tmp rfl .nil), fun W_ hI => out_of (l := []) hI [] rfl rfl (mle_refl _) (fun hS_ => ?_)⟩
    dsimp only [packV]
    all_goals (first | rfl | (first | exact congrArg Value.bool (decide_eq_false (by unfold bareM; omega)).symm | exact congrArg Value.bool (decide_eq_decide.2 (by unfold bareM; omega))))
theorem fin0_sCheck8_ok {P : Prop} (h : P := by congr 1; first | exact (sCheck_arg (by omega)).symm | exact (sCheck_len ‹¬ decide _ = decide _›).symm | exact (bad8 hs hp ‹d0[k]? = some _› (by first | omega | exact .inr (.inr (.inr (.inr ⟨_, by omega, by assumption, by omega⟩))))).symm | exact (sCheck_good (by omega) (by omega) ‹¬ ¬ decide _ = decide _› (hs.2 (by rw [List.drop_of_length_le (by omega)]; trivial))).symm) : P := h
theorem sCheck8_ok (W : World) {v0 : Value} {d0 : List DStart} (h0 : Rd (.sl TStart) (wm W) [v0] d0) (d1 : Int) (h1 : inK .i64 d1) : CallR Try.prog 149 [v0, .int .i64 d1] W (mnil) (fun v m' => v = .int .i64 (sCheck d0 d1)) := by
  obtain ⟨A0, c0, rfl, l0, k0⟩ := h0.slice
  simp only [maxLen] at k0
  have h1' := h1; simp only [inK] at h1'
  refine CallR.ofA (n := 93) Try.func149 rfl rfl rfl ?_
  refine VC.rs ?_
  refine VO.as ?_
  refine VO.k3 0 1 4 ?_
  refine VC.seq ?_
  refine VC.rs ?_
  refine VO.mv ?_
  refine VO.y rfl (.lss rfl rfl) ?_
  refine VO.mv ?_
  refine VO.dec (t := 8) rfl (fun hc1 => ?_) (fun hc1 => ?_)
  · -- T
    refine VO.gN ?_
    refine VO.gN ?_
    refine VO.y rfl (.pT rfl rfl) ?_
    refine VO.mv ?_
    refine VO.gN ?_
    refine VO.gN ?_
    refine VO.gN ?_
    refine VO.gN ?_
    refine VO.gN ?_
    refine VO.gN ?_
    refine VO.y rfl (.pT rfl rfl) ?_
    refine VO.k4 0 1 4 19 ?_
    refine VC.condT rfl ?_
    refine VC.rs ?_
    refine VO.as ?_
    refine VO.kp [0] [(0, wm W)] ?_
    refine VO.k4 0 1 4 19 ?_
    refine VC.ret ?_
    refine outR ?_
    refine ⟨_, _, res_run (rs := [.tmp 4]) rfl (.tmp rfl .nil), fun W_ hI => out_of (l := []) hI [] rfl rfl (mle_refl _) (fun hS_ => ?_)⟩
    dsimp only [packV]
    all_goals (first | rfl | (exact fin0_sCheck8_ok))
  · -- F
    refine VO.gy rfl ⟨_, rfl, rfl⟩ (.mv rfl) ?_
    refine VO.gy rfl ⟨_, rfl, rfl⟩ (.gtr rfl rfl) ?_
    refine VO.y rfl (.pF rfl rfl) ?_
    refine VO.mv ?_
    refine VO.dec (t := 12) rfl (fun hc2 => ?_) (fun hc2 => ?_)
    · -- FT
      refine VO.gN ?_
      refine VO.gN ?_
      refine VO.gN ?_
      refine VO.gN ?_
      refine VO.gN ?_
      refine VO.gN ?_
      refine VO.y rfl (.pT rfl rfl) ?_
      refine VO.k4 0 1 4 19 ?_
      refine VC.condT rfl ?_
      refine VC.rs ?_
      refine VO.as ?_
      refine VO.kp [0] [(0, wm W)] ?_
      refine VO.k4 0 1 4 19 ?_
      refine VC.ret ?_
      refine outR ?_
      refine ⟨_, _, res_run (rs := [.tmp 4]) rfl (.tmp rfl .nil), fun W_ hI => out_of (l := []) hI [] rfl rfl (mle_refl _) (fun hS_ => ?_)⟩
      dsimp only [packV]
      all_goals (first | rfl | (exact fin0_sCheck8_ok))
    · -- FF
      refine VO.gy rfl ⟨_, rfl, rfl⟩ (.mv rfl) ?_
      refine VO.gy rfl ⟨_, rfl, rfl⟩ (.lenS rfl tsl70) ?_
      refine VO.gy rfl ⟨_, rfl, rfl⟩ (.eql rfl rfl) ?_
      refine VO.gy rfl ⟨_, rfl, rfl⟩ (.mv rfl) ?_
      refine VO.gy rfl ⟨_, rfl, rfl⟩ (.eql rfl rfl) ?_
      refine VO.gy rfl ⟨_, rfl, rfl⟩ (.bneq rfl rfl Try.underlying4) ?_
      refine VO.y rfl (.pF rfl rfl) ?_
      refine VO.k4 0 1 4 19 ?_
      refine VC.cond rfl (fun hc3 => ?_) (fun hc3 => ?_)
      · -- FFT
        refine VC.rs ?_
        refine VO.as ?_
        refine VO.kp [0] [(0, wm W)] ?_
        refine VO.k4 0 1 4 19 ?_
        refine VC.ret ?_
        refine outR ?_
        refine ⟨_, _, res_run (rs := [.tmp 4]) rfl (.tmp rfl .nil), fun W_ hI => out_of (l := []) hI [] rfl rfl (mle_refl _) (fun hS_ => ?_)⟩
        dsimp only [packV]
        all_goals (first | rfl | (exact fin0_sCheck8_ok))
      · -- FFF
        refine VC.skip ?_
        refine outN ?_
        refine VC.seq ?_
        refine VC.rs ?_
        refine VO.as ?_
        refine VO.kp [0] [(0, wm W)] ?_
        refine VO.k5 0 1 4 5 19 ?_
        refine VC.block ?_
        refine VC.loop (G := Nat) (fun k => [(5, Value.int .i64 (((k : Nat) : Int))), (0, Value.slice A0 (d0.length) (c0)), (1, Value.int .i64 (d1)), (19, Value.bool (decide (¬ (decide (((d0.length : Nat) : Int) = 0)) = (decide (d1 = 0)))))]) (fun k => [(0, wm W)]) (fun k => (k ≤ d0.length) ∧ (0 ≤ (prevS d0 k).1) ∧ (sGo d1 0 0 0 d0 ↔ sGo d1 (prevS d0 k).1 (prevS d0 k).2 k (d0.drop k))) (fun k => d0.length - k) 0 (⟨by omega, by exact Int.le_refl _, by exact Iff.rfl⟩) ⟨⟨rfl, rfl, rfl, rfl, trivial⟩, fun _ h => h.sub [0]⟩ ?_
        rintro k ⟨hk, hp, hs⟩
        refine VC.seq ?_
        refine VC.rs ?_
        refine VO.mv ?_
        refine VO.mv ?_
        refine VO.y rfl (.lenS rfl tsl70) ?_
        refine VO.y rfl (.lss rfl rfl) ?_
        refine VO.k5 0 1 5 19 23 ?_
        refine VC.cond rfl (fun hc4 => ?_) (fun hc4 => ?_)
        · -- FFFT
          refine VC.skip ?_
          refine outN ?_
          refine VC.seq ?_
          refine VC.block ?_
          refine VC.seq ?_
          refine VC.regD _ 63 [(0, true), (1, true), (2, true), (3, true), (4, true), (5, true), (6, true), (7, true), (8, true), (9, true), (10, true), (11, true), (12, true), (13, true), (14, true), (15, true), (16, true), (17, true), (18, true), (19, true), (20, true), (21, true), (22, true), (23, true), (24, true), (25, true), (26, true), (27, true), (28, true), (29, true), (30, true), (31, true), (32, true), (33, true), (34, true), (35, true), (36, true), (37, true), (38, true), (39, true), (40, true), (41, true), (42, true), (43, true), (44, true), (45, true), (46, true), (47, true), (48, true), (49, true), (50, true), (51, true), (52, true), (53, true), (54, true), (55, true), (56, true), (57, true), (58, true), (59, true), (60, true), (61, true), (62, true)] follows (by kernel_rfl) (fun _ h => h.sub [0]) ?_
          refine VD.y rfl rfl (.inl rfl) (.mv rfl) ?_
          refine VD.y rfl rfl (.inl rfl) (.mv rfl) ?_
          obtain ⟨x5, hx5⟩ : ∃ z_, (d0)[k]? = some z_ := ⟨_, List.getElem?_eq_getElem bd⟩
          obtain ⟨gg5, oo5, ec5, ea5, hce5, hre5⟩ := h0.elem hx5
          cases ea5
          obtain ⟨rfl, q5_0, q5_1⟩ := open_Start (x0 := x5.1) (x1 := x5.2) hre5
          simp only [inK] at q5_0
          simp only [inK] at q5_1
          refine VD.y rfl rfl (.inl rfl) (.ixI k rfl rfl tsl70 rfl bd) ?_
          refine VD.y rfl rfl (.inl rfl) (.fa rfl tst90 rfl) ?_
          refine VD.y rfl rfl (.inl rfl) (.ld1 0 rfl tk3 rfl (hce5.at1 (j := 0) rfl)) ?_
          refine VD.y rfl rfl (.inl rfl) (.lss rfl rfl) ?_
          refine VD.y rfl rfl (.inl rfl) (.mv rfl) ?_
          refine VD.dec (s := 32) rfl (fun hc6 => ?_) (fun hc6 => ?_)
          · -- FFFTT
            refine VD.gn rfl rfl (.inl ⟨_, rfl, rfl⟩) ?_
            refine VD.gn rfl rfl (.inl ⟨_, rfl, rfl⟩) ?_
            refine VD.gn rfl rfl (.inl ⟨_, rfl, rfl⟩) ?_
            refine VD.gn rfl rfl (.inl ⟨_, rfl, rfl⟩) ?_
            refine VD.gn rfl rfl (.inl ⟨_, rfl, rfl⟩) ?_
            refine VD.gn rfl rfl (.inl ⟨_, rfl, rfl⟩) ?_
            refine VD.y rfl rfl (.inl rfl) (.pT rfl rfl) ?_
            refine VD.y rfl rfl (.inl rfl) (.mv rfl) ?_
            refine VD.gn rfl rfl (.inl ⟨_, rfl, rfl⟩) ?_
            refine VD.gn rfl rfl (.inl ⟨_, rfl, rfl⟩) ?_
            refine VD.gn rfl rfl (.inl ⟨_, rfl, rfl⟩) ?_
            refine VD.gn rfl rfl (.inl ⟨_, rfl, rfl⟩) ?_
            refine VD.gn rfl rfl (.inl ⟨_, rfl, rfl⟩) ?_
            refine VD.gn rfl rfl (.inl ⟨_, rfl, rfl⟩) ?_
            refine VD.gn rfl rfl (.inl ⟨_, rfl, rfl⟩) ?_
            refine VD.y rfl rfl (.inl rfl) (.pT rfl rfl) ?_
            refine VD.y rfl rfl (.inl rfl) (.mv rfl) ?_
            refine VD.gn rfl rfl (.inl ⟨_, rfl, rfl⟩) ?_
            refine VD.gn rfl rfl (.inl ⟨_, rfl, rfl⟩) ?_
            refine VD.gn rfl rfl (.inl ⟨_, rfl, rfl⟩) ?_
            refine VD.gn rfl rfl (.inr ⟨_, rfl, rfl⟩) ?_
            refine VD.gn rfl rfl (.inr ⟨_, rfl, rfl⟩) ?_
            refine VD.gn rfl rfl (.inr ⟨_, rfl, rfl⟩) ?_
            refine VD.gn rfl rfl (.inr ⟨_, rfl, rfl⟩) ?_
            refine VD.gn rfl rfl (.inr ⟨_, rfl, rfl⟩) ?_
            refine VD.gn rfl rfl (.inr ⟨_, rfl, rfl⟩) ?_
            refine VD.gn rfl rfl (.inl ⟨_, rfl, rfl⟩) ?_
            refine VD.y rfl rfl (.inl rfl) (.pT rfl rfl) ?_
            refine VD.y rfl rfl (.inl rfl) (.mv rfl) ?_
            refine VD.gn rfl rfl (.inl ⟨_, rfl, rfl⟩) ?_
            refine VD.gn rfl rfl (.inl ⟨_, rfl, rfl⟩) ?_
            refine VD.gn rfl rfl (.inl ⟨_, rfl, rfl⟩) ?_
            refine VD.gn rfl rfl (.inr ⟨_, rfl, rfl⟩) ?_
            refine VD.gn rfl rfl (.inr ⟨_, rfl, rfl⟩) ?_
            refine VD.gn rfl rfl (.inr ⟨_, rfl, rfl⟩) ?_
            refine VD.gn rfl rfl (.inr ⟨_, rfl, rfl⟩) ?_
            refine VD.gn rfl rfl (.inr ⟨_, rfl, rfl⟩) ?_
            refine VD.gn rfl rfl (.inr ⟨_, rfl, rfl⟩) ?_
            refine VD.gn rfl rfl (.inr ⟨_, rfl, rfl⟩) ?_
            refine VD.gn rfl rfl (.inr ⟨_, rfl, rfl⟩) ?_
            refine VD.gn rfl rfl (.inr ⟨_, rfl, rfl⟩) ?_
            refine VD.gn rfl rfl (.inr ⟨_, rfl, rfl⟩) ?_
            refine VD.gn rfl rfl (.inr ⟨_, rfl, rfl⟩) ?_
            refine VD.gn rfl rfl (.inr ⟨_, rfl, rfl⟩) ?_
            refine VD.gn rfl rfl (.inr ⟨_, rfl, rfl⟩) ?_
            refine VD.gn rfl rfl (.inr ⟨_, rfl, rfl⟩) ?_
            refine VD.gn rfl rfl (.inr ⟨_, rfl, rfl⟩) ?_
            refine VD.gn rfl rfl (.inr ⟨_, rfl, rfl⟩) ?_
            refine VD.gn rfl rfl (.inr ⟨_, rfl, rfl⟩) ?_
            refine VD.gn rfl rfl (.inr ⟨_, rfl, rfl⟩) ?_
            refine VD.gn rfl rfl (.inr ⟨_, rfl, rfl⟩) ?_
            refine VD.gn rfl rfl (.inr ⟨_, rfl, rfl⟩) ?_
            refine VD.gn rfl rfl (.inr ⟨_, rfl, rfl⟩) ?_
            refine VD.gn rfl rfl (.inr ⟨_, rfl, rfl⟩) ?_
            refine VD.gn rfl rfl (.inr ⟨_, rfl, rfl⟩) ?_
            refine VD.gn rfl rfl (.inr ⟨_, rfl, rfl⟩) ?_
            refine VD.nil rfl ?_ rfl
            refine VO.gn rfl (.inr ⟨_, rfl, rfl⟩) ?_
            refine VO.gn rfl (.inr ⟨_, rfl, rfl⟩) ?_
            refine VO.gN ?_
            refine VO.y rfl (.pT rfl rfl) ?_
            refine VO.k6 0 1 5 19 23 92 ?_
            refine outN ?_
            refine VC.condT rfl ?_
            refine VC.rs ?_
            refine VO.as ?_
            refine VO.kp [0] [(0, wm W)] ?_
            refine VO.k7 0 1 4 5 19 23 92 ?_
            refine VC.ret ?_
            refine outBR ?_
            refine outR ?_
            refine outR ?_
            refine outBR ?_
            refine outR ?_
            refine ⟨_, _, res_run (rs := [.tmp 4]) rfl (.tmp rfl .nil), fun W_ hI => out_of (l := []) hI [] rfl rfl (mle_refl _) (fun hS_ => ?_)⟩
            dsimp only [packV]
            all_goals (first | rfl | (exact fin0_sCheck8_ok))
          · -- FFFTF
            refine VD.y rfl rfl (.inr ⟨_, _, rfl, _, rfl, rfl⟩) (.mv rfl) ?_
            refine VD.y rfl rfl (.inr ⟨_, _, rfl, _, rfl, rfl⟩) (.mv rfl) ?_
            refine VD.y rfl rfl (.inr ⟨_, _, rfl, _, rfl, rfl⟩) (.ixI k rfl rfl tsl70 rfl bd) ?_
            refine VD.y rfl rfl (.inr ⟨_, _, rfl, _, rfl, rfl⟩) (.fa rfl tst90 rfl) ?_
            refine VD.y rfl rfl (.inr ⟨_, _, rfl, _, rfl, rfl⟩) (.ld1 0 rfl tk3 rfl (hce5.at1 (j := 0) rfl)) ?_
            refine VD.y rfl rfl (.inr ⟨_, _, rfl, _, rfl, rfl⟩) (.gtr rfl rfl) ?_
            refine VD.y rfl rfl (.inl rfl) (.pF rfl rfl) ?_
            refine VD.y rfl rfl (.inl rfl) (.mv rfl) ?_
            refine VD.dec (s := 40) rfl (fun hc8 => ?_) (fun hc8 => ?_)
            · -- FFFTFT
              refine VD.gn rfl rfl (.inl ⟨_, rfl, rfl⟩) ?_
              refine VD.gn rfl rfl (.inl ⟨_, rfl, rfl⟩) ?_
              refine VD.gn rfl rfl (.inl ⟨_, rfl, rfl⟩) ?_
              refine VD.gn rfl rfl (.inl ⟨_, rfl, rfl⟩) ?_
              refine VD.gn rfl rfl (.inl ⟨_, rfl, rfl⟩) ?_
              refine VD.gn rfl rfl (.inl ⟨_, rfl, rfl⟩) ?_
              refine VD.gn rfl rfl (.inl ⟨_, rfl, rfl⟩) ?_
              refine VD.y rfl rfl (.inl rfl) (.pT rfl rfl) ?_
              refine VD.y rfl rfl (.inl rfl) (.mv rfl) ?_
              refine VD.gn rfl rfl (.inl ⟨_, rfl, rfl⟩) ?_
              refine VD.gn rfl rfl (.inl ⟨_, rfl, rfl⟩) ?_
              refine VD.gn rfl rfl (.inl ⟨_, rfl, rfl⟩) ?_
              refine VD.gn rfl rfl (.inr ⟨_, rfl, rfl⟩) ?_
              refine VD.gn rfl rfl (.inr ⟨_, rfl, rfl⟩) ?_
              refine VD.gn rfl rfl (.inr ⟨_, rfl, rfl⟩) ?_
              refine VD.gn rfl rfl (.inr ⟨_, rfl, rfl⟩) ?_
              refine VD.gn rfl rfl (.inr ⟨_, rfl, rfl⟩) ?_
              refine VD.gn rfl rfl (.inr ⟨_, rfl, rfl⟩) ?_
              refine VD.gn rfl rfl (.inl ⟨_, rfl, rfl⟩) ?_
              refine VD.y rfl rfl (.inl rfl) (.pT rfl rfl) ?_
              refine VD.y rfl rfl (.inl rfl) (.mv rfl) ?_
              refine VD.gn rfl rfl (.inl ⟨_, rfl, rfl⟩) ?_
              refine VD.gn rfl rfl (.inl ⟨_, rfl, rfl⟩) ?_
              refine VD.gn rfl rfl (.inl ⟨_, rfl, rfl⟩) ?_
              refine VD.gn rfl rfl (.inr ⟨_, rfl, rfl⟩) ?_
              refine VD.gn rfl rfl (.inr ⟨_, rfl, rfl⟩) ?_
              refine VD.gn rfl rfl (.inr ⟨_, rfl, rfl⟩) ?_
              refine VD.gn rfl rfl (.inr ⟨_, rfl, rfl⟩) ?_
              refine VD.gn rfl rfl (.inr ⟨_, rfl, rfl⟩) ?_
              refine VD.gn rfl rfl (.inr ⟨_, rfl, rfl⟩) ?_
              refine VD.gn rfl rfl (.inr ⟨_, rfl, rfl⟩) ?_
              refine VD.gn rfl rfl (.inr ⟨_, rfl, rfl⟩) ?_
              refine VD.gn rfl rfl (.inr ⟨_, rfl, rfl⟩) ?_
              refine VD.gn rfl rfl (.inr ⟨_, rfl, rfl⟩) ?_
              refine VD.gn rfl rfl (.inr ⟨_, rfl, rfl⟩) ?_
              refine VD.gn rfl rfl (.inr ⟨_, rfl, rfl⟩) ?_
              refine VD.gn rfl rfl (.inr ⟨_, rfl, rfl⟩) ?_
              refine VD.gn rfl rfl (.inr ⟨_, rfl, rfl⟩) ?_
              refine VD.gn rfl rfl (.inr ⟨_, rfl, rfl⟩) ?_
              refine VD.gn rfl rfl (.inr ⟨_, rfl, rfl⟩) ?_
              refine VD.gn rfl rfl (.inr ⟨_, rfl, rfl⟩) ?_
              refine VD.gn rfl rfl (.inr ⟨_, rfl, rfl⟩) ?_
              refine VD.gn rfl rfl (.inr ⟨_, rfl, rfl⟩) ?_
              refine VD.gn rfl rfl (.inr ⟨_, rfl, rfl⟩) ?_
              refine VD.gn rfl rfl (.inr ⟨_, rfl, rfl⟩) ?_
              refine VD.gn rfl rfl (.inr ⟨_, rfl, rfl⟩) ?_
              refine VD.gn rfl rfl (.inr ⟨_, rfl, rfl⟩) ?_
              refine VD.gn rfl rfl (.inr ⟨_, rfl, rfl⟩) ?_
              refine VD.nil rfl ?_ rfl
              refine VO.gn rfl (.inr ⟨_, rfl, rfl⟩) ?_
              refine VO.gn rfl (.inr ⟨_, rfl, rfl⟩) ?_
              refine VO.gN ?_
              refine VO.y rfl (.pT rfl rfl) ?_
              refine VO.k6 0 1 5 19 23 92 ?_
              refine outN ?_
              refine VC.condT rfl ?_
              refine VC.rs ?_
              refine VO.as ?_
              refine VO.kp [0] [(0, wm W)] ?_
              refine VO.k7 0 1 4 5 19 23 92 ?_
              refine VC.ret ?_
              refine outBR ?_
              refine outR ?_
              refine outR ?_
              refine outBR ?_
              refine outR ?_
              refine ⟨_, _, res_run (rs := [.tmp 4]) rfl (.tmp rfl .nil), fun W_ hI => out_of (l := []) hI [] rfl rfl (mle_refl _) (fun hS_ => ?_)⟩
              dsimp only [packV]
              all_goals (first | rfl | (exact fin0_sCheck8_ok))
            · -- FFFTFF
              refine VD.y rfl rfl (.inr ⟨_, _, rfl, _, rfl, rfl⟩) (.mv rfl) ?_
              refine VD.y rfl rfl (.inr ⟨_, _, rfl, _, rfl, rfl⟩) (.mv rfl) ?_
              refine VD.y rfl rfl (.inr ⟨_, _, rfl, _, rfl, rfl⟩) (.ixI k rfl rfl tsl70 rfl bd) ?_
              refine VD.y rfl rfl (.inr ⟨_, _, rfl, _, rfl, rfl⟩) (.fa rfl tst90 rfl) ?_
              refine VD.y rfl rfl (.inr ⟨_, _, rfl, _, rfl, rfl⟩) (.ld1 0 rfl tk3 rfl (hce5.at1 (j := 1) rfl)) ?_
              refine VD.y rfl rfl (.inr ⟨_, _, rfl, _, rfl, rfl⟩) (.mv rfl) ?_
              refine VD.y rfl rfl (.inr ⟨_, _, rfl, _, rfl, rfl⟩) (.gtr rfl rfl) ?_
              refine VD.y rfl rfl (.inl rfl) (.pF rfl rfl) ?_
              refine VD.y rfl rfl (.inl rfl) (.mv rfl) ?_
              refine VD.dec (s := 49) rfl (fun hc10 => ?_) (fun hc10 => ?_)
              · -- FFFTFFT
                refine VD.gn rfl rfl (.inl ⟨_, rfl, rfl⟩) ?_
                refine VD.gn rfl rfl (.inl ⟨_, rfl, rfl⟩) ?_
                refine VD.gn rfl rfl (.inl ⟨_, rfl, rfl⟩) ?_
                refine VD.gn rfl rfl (.inr ⟨_, rfl, rfl⟩) ?_
                refine VD.gn rfl rfl (.inr ⟨_, rfl, rfl⟩) ?_
                refine VD.gn rfl rfl (.inr ⟨_, rfl, rfl⟩) ?_
                refine VD.gn rfl rfl (.inr ⟨_, rfl, rfl⟩) ?_
                refine VD.gn rfl rfl (.inr ⟨_, rfl, rfl⟩) ?_
                refine VD.gn rfl rfl (.inr ⟨_, rfl, rfl⟩) ?_
                refine VD.gn rfl rfl (.inl ⟨_, rfl, rfl⟩) ?_
                refine VD.y rfl rfl (.inl rfl) (.pT rfl rfl) ?_
                refine VD.y rfl rfl (.inl rfl) (.mv rfl) ?_
                refine VD.gn rfl rfl (.inl ⟨_, rfl, rfl⟩) ?_
                refine VD.gn rfl rfl (.inl ⟨_, rfl, rfl⟩) ?_
                refine VD.gn rfl rfl (.inl ⟨_, rfl, rfl⟩) ?_
                refine VD.gn rfl rfl (.inr ⟨_, rfl, rfl⟩) ?_
                refine VD.gn rfl rfl (.inr ⟨_, rfl, rfl⟩) ?_
                refine VD.gn rfl rfl (.inr ⟨_, rfl, rfl⟩) ?_
                refine VD.gn rfl rfl (.inr ⟨_, rfl, rfl⟩) ?_
                refine VD.gn rfl rfl (.inr ⟨_, rfl, rfl⟩) ?_
                refine VD.gn rfl rfl (.inr ⟨_, rfl, rfl⟩) ?_
                refine VD.gn rfl rfl (.inr ⟨_, rfl, rfl⟩) ?_
                refine VD.gn rfl rfl (.inr ⟨_, rfl, rfl⟩) ?_
                refine VD.gn rfl rfl (.inr ⟨_, rfl, rfl⟩) ?_
                refine VD.gn rfl rfl (.inr ⟨_, rfl, rfl⟩) ?_
                refine VD.gn rfl rfl (.inr ⟨_, rfl, rfl⟩) ?_
                refine VD.gn rfl rfl (.inr ⟨_, rfl, rfl⟩) ?_
                refine VD.gn rfl rfl (.inr ⟨_, rfl, rfl⟩) ?_
                refine VD.gn rfl rfl (.inr ⟨_, rfl, rfl⟩) ?_
                refine VD.gn rfl rfl (.inr ⟨_, rfl, rfl⟩) ?_
                refine VD.gn rfl rfl (.inr ⟨_, rfl, rfl⟩) ?_
                refine VD.gn rfl rfl (.inr ⟨_, rfl, rfl⟩) ?_
                refine VD.gn rfl rfl (.inr ⟨_, rfl, rfl⟩) ?_
                refine VD.gn rfl rfl (.inr ⟨_, rfl, rfl⟩) ?_
                refine VD.gn rfl rfl (.inr ⟨_, rfl, rfl⟩) ?_
                refine VD.gn rfl rfl (.inr ⟨_, rfl, rfl⟩) ?_
                refine VD.gn rfl rfl (.inr ⟨_, rfl, rfl⟩) ?_
                refine VD.gn rfl rfl (.inr ⟨_, rfl, rfl⟩) ?_
                refine VD.gn rfl rfl (.inr ⟨_, rfl, rfl⟩) ?_
                refine VD.nil rfl ?_ rfl
                refine VO.gn rfl (.inr ⟨_, rfl, rfl⟩) ?_
                refine VO.gn rfl (.inr ⟨_, rfl, rfl⟩) ?_
                refine VO.gN ?_
                refine VO.y rfl (.pT rfl rfl) ?_
                refine VO.k6 0 1 5 19 23 92 ?_
                refine outN ?_
                refine VC.condT rfl ?_
                refine VC.rs ?_
                refine VO.as ?_
                refine VO.kp [0] [(0, wm W)] ?_
                refine VO.k7 0 1 4 5 19 23 92 ?_
                refine VC.ret ?_
                refine outBR ?_
                refine outR ?_
                refine outR ?_
                refine outBR ?_
                refine outR ?_
                refine ⟨_, _, res_run (rs := [.tmp 4]) rfl (.tmp rfl .nil), fun W_ hI => out_of (l := []) hI [] rfl rfl (mle_refl _) (fun hS_ => ?_)⟩
                dsimp only [packV]
                all_goals (first | rfl | (exact fin0_sCheck8_ok))
              · -- FFFTFFF
                refine VD.y rfl rfl (.inr ⟨_, _, rfl, _, rfl, rfl⟩) (.mv rfl) ?_
                refine VD.y rfl rfl (.inr ⟨_, _, rfl, _, rfl, rfl⟩) (.eql rfl rfl) ?_
                refine VD.y rfl rfl (.inr ⟨_, _, rfl, _, rfl, rfl⟩) (.mv rfl) ?_
                refine VD.dec (s := 52) rfl (fun hc11 => ?_) (fun hc11 => ?_)
                · -- FFFTFFFT
                  refine VD.y rfl rfl (.inr ⟨_, _, rfl, _, rfl, rfl⟩) (.mv rfl) ?_
                  refine VD.y rfl rfl (.inr ⟨_, _, rfl, _, rfl, rfl⟩) (.mv rfl) ?_
                  refine VD.y rfl rfl (.inr ⟨_, _, rfl, _, rfl, rfl⟩) (.ixI k rfl rfl tsl70 rfl bd) ?_
                  refine VD.y rfl rfl (.inr ⟨_, _, rfl, _, rfl, rfl⟩) (.fa rfl tst90 rfl) ?_
                  refine VD.y rfl rfl (.inr ⟨_, _, rfl, _, rfl, rfl⟩) (.ld1 0 rfl tk3 rfl (hce5.at1 (j := 1) rfl)) ?_
                  refine VD.y rfl rfl (.inr ⟨_, _, rfl, _, rfl, rfl⟩) (.neq rfl rfl) ?_
                  refine VD.y rfl rfl (.inr ⟨_, _, rfl, _, rfl, rfl⟩) (.pT rfl rfl) ?_
                  refine VD.y rfl rfl (.inl rfl) (.pF rfl rfl) ?_
                  refine VD.y rfl rfl (.inl rfl) (.mv rfl) ?_
                  refine VD.dec (s := 61) rfl (fun hc13 => ?_) (fun hc13 => ?_)
                  · -- FFFTFFFTT
                    refine VD.gn rfl rfl (.inl ⟨_, rfl, rfl⟩) ?_
                    refine VD.gn rfl rfl (.inl ⟨_, rfl, rfl⟩) ?_
                    refine VD.gn rfl rfl (.inl ⟨_, rfl, rfl⟩) ?_
                    refine VD.gn rfl rfl (.inr ⟨_, rfl, rfl⟩) ?_
                    refine VD.gn rfl rfl (.inr ⟨_, rfl, rfl⟩) ?_
                    refine VD.gn rfl rfl (.inr ⟨_, rfl, rfl⟩) ?_
                    refine VD.gn rfl rfl (.inr ⟨_, rfl, rfl⟩) ?_
                    refine VD.gn rfl rfl (.inr ⟨_, rfl, rfl⟩) ?_
                    refine VD.gn rfl rfl (.inr ⟨_, rfl, rfl⟩) ?_
                    refine VD.gn rfl rfl (.inr ⟨_, rfl, rfl⟩) ?_
                    refine VD.gn rfl rfl (.inr ⟨_, rfl, rfl⟩) ?_
                    refine VD.gn rfl rfl (.inr ⟨_, rfl, rfl⟩) ?_
                    refine VD.gn rfl rfl (.inr ⟨_, rfl, rfl⟩) ?_
                    refine VD.gn rfl rfl (.inr ⟨_, rfl, rfl⟩) ?_
                    refine VD.gn rfl rfl (.inr ⟨_, rfl, rfl⟩) ?_
                    refine VD.gn rfl rfl (.inr ⟨_, rfl, rfl⟩) ?_
                    refine VD.gn rfl rfl (.inr ⟨_, rfl, rfl⟩) ?_
                    refine VD.gn rfl rfl (.inr ⟨_, rfl, rfl⟩) ?_
                    refine VD.gn rfl rfl (.inr ⟨_, rfl, rfl⟩) ?_
                    refine VD.gn rfl rfl (.inr ⟨_, rfl, rfl⟩) ?_
                    refine VD.gn rfl rfl (.inr ⟨_, rfl, rfl⟩) ?_
                    refine VD.gn rfl rfl (.inr ⟨_, rfl, rfl⟩) ?_
                    refine VD.gn rfl rfl (.inr ⟨_, rfl, rfl⟩) ?_
                    refine VD.gn rfl rfl (.inr ⟨_, rfl, rfl⟩) ?_
                    refine VD.gn rfl rfl (.inr ⟨_, rfl, rfl⟩) ?_
                    refine VD.gn rfl rfl (.inr ⟨_, rfl, rfl⟩) ?_
                    refine VD.gn rfl rfl (.inr ⟨_, rfl, rfl⟩) ?_
                    refine VD.nil rfl ?_ rfl
                    refine VO.gn rfl (.inr ⟨_, rfl, rfl⟩) ?_
                    refine VO.gn rfl (.inr ⟨_, rfl, rfl⟩) ?_
                    refine VO.gN ?_
                    refine VO.y rfl (.pT rfl rfl) ?_
                    refine VO.k6 0 1 5 19 23 92 ?_
                    refine outN ?_
                    refine VC.condT rfl ?_
                    refine VC.rs ?_
                    refine VO.as ?_
                    refine VO.kp [0] [(0, wm W)] ?_
                    refine VO.k7 0 1 4 5 19 23 92 ?_
                    refine VC.ret ?_
                    refine outBR ?_
                    refine outR ?_
                    refine outR ?_
                    refine outBR ?_
                    refine outR ?_
                    refine ⟨_, _, res_run (rs := [.tmp 4]) rfl (.tmp rfl .nil), fun W_ hI => out_of (l := []) hI [] rfl rfl (mle_refl _) (fun hS_ => ?_)⟩
                    dsimp only [packV]
                    all_goals (first | rfl | (exact fin0_sCheck8_ok))
                  · -- FFFTFFFTF
                    refine VD.y rfl rfl (.inr ⟨_, _, rfl, _, rfl, rfl⟩) (.mv rfl) ?_
                    refine VD.y rfl rfl (.inr ⟨_, _, rfl, _, rfl, rfl⟩) (.gtr rfl rfl) ?_
                    refine VD.y rfl rfl (.inr ⟨_, _, rfl, _, rfl, rfl⟩) (.mv rfl) ?_
                    refine VD.dec (s := 64) rfl (fun hc14 => ?_) (fun hc14 => ?_)
                    · -- FFFTFFFTFT
                      refine VD.y rfl rfl (.inr ⟨_, _, rfl, _, rfl, rfl⟩) (.mv rfl) ?_
                      refine VD.y rfl rfl (.inr ⟨_, _, rfl, _, rfl, rfl⟩) (.mv rfl) ?_
                      refine VD.y rfl rfl (.inr ⟨_, _, rfl, _, rfl, rfl⟩) (.ixI k rfl rfl tsl70 rfl bd) ?_
                      refine VD.y rfl rfl (.inr ⟨_, _, rfl, _, rfl, rfl⟩) (.fa rfl tst90 rfl) ?_
                      refine VD.y rfl rfl (.inr ⟨_, _, rfl, _, rfl, rfl⟩) (.ld1 0 rfl tk3 rfl (hce5.at1 (j := 0) rfl)) ?_
                      refine VD.y rfl rfl (.inr ⟨_, _, rfl, _, rfl, rfl⟩) (.mv rfl) ?_
                      refine VD.y rfl rfl (.inr ⟨_, _, rfl, _, rfl, rfl⟩) (.mv rfl) ?_
                      refine VD.y rfl rfl (.inr ⟨_, _, rfl, _, rfl, rfl⟩) (.sub rfl rfl rfl ⟨bd, bd⟩) ?_
                      obtain ⟨x16, hx16⟩ : ∃ z_, (d0)[(((k : Nat) : Int) - 1).toNat]? = some z_ := ⟨_, List.getElem?_eq_getElem bd⟩
                      obtain ⟨gg16, oo16, ec16, ea16, hce16, hre16⟩ := h0.elem hx16
                      cases ea16
                      obtain ⟨rfl, q16_0, q16_1⟩ := open_Start (x0 := x16.1) (x1 := x16.2) hre16
                      simp only [inK] at q16_0
                      simp only [inK] at q16_1
                      refine VD.y rfl rfl (.inr ⟨_, _, rfl, _, rfl, rfl⟩) (.ixI ((((k : Nat) : Int) - 1).toNat) rfl rfl tsl70 bd bd) ?_
                      refine VD.y rfl rfl (.inr ⟨_, _, rfl, _, rfl, rfl⟩) (.fa rfl tst90 rfl) ?_
                      refine VD.y rfl rfl (.inr ⟨_, _, rfl, _, rfl, rfl⟩) (.ld1 0 rfl tk3 rfl (hce16.at1 (j := 0) rfl)) ?_
                      refine VD.y rfl rfl (.inr ⟨_, _, rfl, _, rfl, rfl⟩) (.leq rfl rfl) ?_
                      refine VD.y rfl rfl (.inr ⟨_, _, rfl, _, rfl, rfl⟩) (.mv rfl) ?_
                      refine VD.dec (s := 77) rfl (fun hc17 => ?_) (fun hc17 => ?_)
                      · -- FFFTFFFTFTT
                        refine VD.gn rfl rfl (.inl ⟨_, rfl, rfl⟩) ?_
                        refine VD.gn rfl rfl (.inl ⟨_, rfl, rfl⟩) ?_
                        refine VD.gn rfl rfl (.inl ⟨_, rfl, rfl⟩) ?_
                        refine VD.gn rfl rfl (.inl ⟨_, rfl, rfl⟩) ?_
                        refine VD.gn rfl rfl (.inl ⟨_, rfl, rfl⟩) ?_
                        refine VD.gn rfl rfl (.inl ⟨_, rfl, rfl⟩) ?_
                        refine VD.gn rfl rfl (.inl ⟨_, rfl, rfl⟩) ?_
                        refine VD.gn rfl rfl (.inl ⟨_, rfl, rfl⟩) ?_
                        refine VD.gn rfl rfl (.inl ⟨_, rfl, rfl⟩) ?_
                        refine VD.gn rfl rfl (.inl ⟨_, rfl, rfl⟩) ?_
                        refine VD.gn rfl rfl (.inl ⟨_, rfl, rfl⟩) ?_
                        refine VD.nil rfl ?_ rfl
                        refine VO.gN ?_
                        refine VO.gy rfl ⟨_, rfl, rfl⟩ (.pT rfl rfl) ?_
                        refine VO.gy rfl ⟨_, rfl, rfl⟩ (.pT rfl rfl) ?_
                        refine VO.y rfl (.pF rfl rfl) ?_
                        refine VO.k6 0 1 5 19 23 92 ?_
                        refine outN ?_
                        refine VC.condT rfl ?_
                        refine VC.rs ?_
                        refine VO.as ?_
                        refine VO.kp [0] [(0, wm W)] ?_
                        refine VO.k7 0 1 4 5 19 23 92 ?_
                        refine VC.ret ?_
                        refine outBR ?_
                        refine outR ?_
                        refine outR ?_
                        refine outBR ?_
                        refine outR ?_
                        refine ⟨_, _, res_run (rs := [.tmp 4]) rfl (.tmp rfl .nil), fun W_ hI => out_of (l := []) hI [] rfl rfl (mle_refl _) (fun hS_ => ?_)⟩
                        dsimp only [packV]
                        all_goals (first | rfl | (exact fin0_sCheck8_ok))
                      · -- FFFTFFFTFTF
                        refine VD.y rfl rfl (.inr ⟨_, _, rfl, _, rfl, rfl⟩) (.mv rfl) ?_
                        refine VD.y rfl rfl (.inr ⟨_, _, rfl, _, rfl, rfl⟩) (.mv rfl) ?_
                        refine VD.y rfl rfl (.inr ⟨_, _, rfl, _, rfl, rfl⟩) (.ixI k rfl rfl tsl70 rfl bd) ?_
                        refine VD.y rfl rfl (.inr ⟨_, _, rfl, _, rfl, rfl⟩) (.fa rfl tst90 rfl) ?_
                        refine VD.y rfl rfl (.inr ⟨_, _, rfl, _, rfl, rfl⟩) (.ld1 0 rfl tk3 rfl (hce5.at1 (j := 1) rfl)) ?_
                        refine VD.y rfl rfl (.inr ⟨_, _, rfl, _, rfl, rfl⟩) (.mv rfl) ?_
                        refine VD.y rfl rfl (.inr ⟨_, _, rfl, _, rfl, rfl⟩) (.mv rfl) ?_
                        refine VD.y rfl rfl (.inr ⟨_, _, rfl, _, rfl, rfl⟩) (.sub rfl rfl rfl ⟨bd, bd⟩) ?_
                        refine VD.y rfl rfl (.inr ⟨_, _, rfl, _, rfl, rfl⟩) (.ixI ((((k : Nat) : Int) - 1).toNat) rfl rfl tsl70 bd bd) ?_
                        refine VD.y rfl rfl (.inr ⟨_, _, rfl, _, rfl, rfl⟩) (.fa rfl tst90 rfl) ?_
                        refine VD.y rfl rfl (.inr ⟨_, _, rfl, _, rfl, rfl⟩) (.ld1 0 rfl tk3 rfl (hce16.at1 (j := 1) rfl)) ?_
                        refine VD.nil rfl ?_ rfl
                        refine VO.gy rfl ⟨_, rfl, rfl⟩ (.leq rfl rfl) ?_
                        refine VO.gy rfl ⟨_, rfl, rfl⟩ (.pF rfl rfl) ?_
                        refine VO.gy rfl ⟨_, rfl, rfl⟩ (.pT rfl rfl) ?_
                        refine VO.y rfl (.pF rfl rfl) ?_
                        refine VO.k6 0 1 5 19 23 92 ?_
                        refine outN ?_
                        refine VC.cond rfl (fun hc20 => ?_) (fun hc20 => ?_)
                        · -- FFFTFFFTFTFT
                          refine VC.rs ?_
                          refine VO.as ?_
                          refine VO.kp [0] [(0, wm W)] ?_
                          refine VO.k7 0 1 4 5 19 23 92 ?_
                          refine VC.ret ?_
                          refine outBR ?_
                          refine outR ?_
                          refine outR ?_
                          refine outBR ?_
                          refine outR ?_
                          refine ⟨_, _, res_run (rs := [.tmp 4]) rfl (.tmp rfl .nil), fun W_ hI => out_of (l := []) hI [] rfl rfl (mle_refl _) (fun hS_ => ?_)⟩
                          dsimp only [packV]
                          all_goals (first | rfl | (exact fin0_sCheck8_ok))
                        · -- FFFTFFFTFTFF
                          refine VC.skip ?_
                          refine outBN ?_
                          refine outN ?_
                          refine VC.reg ?_
                          refine VO.mv ?_
                          refine VO.y rfl (.add (c := ((k + 1 : Nat) : Int)) rfl rfl (by omega) ⟨bd, bd⟩) ?_
                          refine VO.as ?_
                          refine VO.kp [0] [(0, wm W)] ?_
                          refine VO.k6 0 1 5 19 23 92 ?_
                          exact outN ⟨k + 1, ⟨by omega, by (rw [prevS_next ‹d0[k]? = some _›]; omega), by exact hs.trans (step8 ‹d0[k]? = some _› (by omega) (by omega) (by omega) (by omega) (by first | (intro h_; exfalso; omega) | exact fun _ => ⟨_, by assumption, by omega, by omega⟩))⟩, bd, ⟨⟨rfl, rfl, rfl, rfl, trivial⟩, fun _ h => Inv.sub h [0]⟩⟩
                    · -- FFFTFFFTFF
                      refine VD.gn rfl rfl (.inl ⟨_, rfl, rfl⟩) ?_
                      refine VD.gn rfl rfl (.inl ⟨_, rfl, rfl⟩) ?_
                      refine VD.gn rfl rfl (.inl ⟨_, rfl, rfl⟩) ?_
                      refine VD.gn rfl rfl (.inl ⟨_, rfl, rfl⟩) ?_
                      refine VD.gn rfl rfl (.inl ⟨_, rfl, rfl⟩) ?_
                      refine VD.gn rfl rfl (.inl ⟨_, rfl, rfl⟩) ?_
                      refine VD.gn rfl rfl (.inl ⟨_, rfl, rfl⟩) ?_
                      refine VD.gn rfl rfl (.inl ⟨_, rfl, rfl⟩) ?_
                      refine VD.gn rfl rfl (.inl ⟨_, rfl, rfl⟩) ?_
                      refine VD.gn rfl rfl (.inl ⟨_, rfl, rfl⟩) ?_
                      refine VD.gn rfl rfl (.inl ⟨_, rfl, rfl⟩) ?_
                      refine VD.gn rfl rfl (.inl ⟨_, rfl, rfl⟩) ?_
                      refine VD.gn rfl rfl (.inl ⟨_, rfl, rfl⟩) ?_
                      refine VD.gn rfl rfl (.inr ⟨_, rfl, rfl⟩) ?_
                      refine VD.gn rfl rfl (.inr ⟨_, rfl, rfl⟩) ?_
                      refine VD.gn rfl rfl (.inr ⟨_, rfl, rfl⟩) ?_
                      refine VD.gn rfl rfl (.inr ⟨_, rfl, rfl⟩) ?_
                      refine VD.gn rfl rfl (.inr ⟨_, rfl, rfl⟩) ?_
                      refine VD.gn rfl rfl (.inr ⟨_, rfl, rfl⟩) ?_
                      refine VD.gn rfl rfl (.inr ⟨_, rfl, rfl⟩) ?_
                      refine VD.gn rfl rfl (.inr ⟨_, rfl, rfl⟩) ?_
                      refine VD.gn rfl rfl (.inr ⟨_, rfl, rfl⟩) ?_
                      refine VD.gn rfl rfl (.inr ⟨_, rfl, rfl⟩) ?_
                      refine VD.gn rfl rfl (.inr ⟨_, rfl, rfl⟩) ?_
                      refine VD.nil rfl ?_ rfl
                      refine VO.gn rfl (.inr ⟨_, rfl, rfl⟩) ?_
                      refine VO.gN ?_
                      refine VO.gy rfl ⟨_, rfl, rfl⟩ (.pF rfl rfl) ?_
                      refine VO.y rfl (.pF rfl rfl) ?_
                      refine VO.k6 0 1 5 19 23 92 ?_
                      refine outN ?_
                      refine VC.condF rfl ?_
                      refine VC.skip ?_
                      refine outBN ?_
                      refine outN ?_
                      refine VC.reg ?_
                      refine VO.mv ?_
                      refine VO.y rfl (.add (c := ((k + 1 : Nat) : Int)) rfl rfl (by omega) ⟨bd, bd⟩) ?_
                      refine VO.as ?_
                      refine VO.kp [0] [(0, wm W)] ?_
                      refine VO.k6 0 1 5 19 23 92 ?_
                      exact outN ⟨k + 1, ⟨by omega, by (rw [prevS_next ‹d0[k]? = some _›]; omega), by exact hs.trans (step8 ‹d0[k]? = some _› (by omega) (by omega) (by omega) (by omega) (by first | (intro h_; exfalso; omega) | exact fun _ => ⟨_, by assumption, by omega, by omega⟩))⟩, bd, ⟨⟨rfl, rfl, rfl, rfl, trivial⟩, fun _ h => Inv.sub h [0]⟩⟩
                · -- FFFTFFFF
                  refine VD.gn rfl rfl (.inl ⟨_, rfl, rfl⟩) ?_
                  refine VD.gn rfl rfl (.inl ⟨_, rfl, rfl⟩) ?_
                  refine VD.gn rfl rfl (.inl ⟨_, rfl, rfl⟩) ?_
                  refine VD.gn rfl rfl (.inl ⟨_, rfl, rfl⟩) ?_
                  refine VD.gn rfl rfl (.inl ⟨_, rfl, rfl⟩) ?_
                  refine VD.gn rfl rfl (.inl ⟨_, rfl, rfl⟩) ?_
                  refine VD.y rfl rfl (.inr ⟨_, _, rfl, _, rfl, rfl⟩) (.pF rfl rfl) ?_
                  refine VD.y rfl rfl (.inl rfl) (.pF rfl rfl) ?_
                  refine VD.y rfl rfl (.inl rfl) (.mv rfl) ?_
                  refine VD.y rfl rfl (.inr ⟨_, _, rfl, _, rfl, rfl⟩) (.mv rfl) ?_
                  refine VD.y rfl rfl (.inr ⟨_, _, rfl, _, rfl, rfl⟩) (.gtr rfl rfl) ?_
                  refine VD.y rfl rfl (.inr ⟨_, _, rfl, _, rfl, rfl⟩) (.mv rfl) ?_
                  refine VD.dec (s := 64) rfl (fun hc21 => ?_) (fun hc21 => ?_)
                  · -- FFFTFFFFT
                    refine VD.y rfl rfl (.inr ⟨_, _, rfl, _, rfl, rfl⟩) (.mv rfl) ?_
                    refine VD.y rfl rfl (.inr ⟨_, _, rfl, _, rfl, rfl⟩) (.mv rfl) ?_
                    refine VD.y rfl rfl (.inr ⟨_, _, rfl, _, rfl, rfl⟩) (.ixI k rfl rfl tsl70 rfl bd) ?_
                    refine VD.y rfl rfl (.inr ⟨_, _, rfl, _, rfl, rfl⟩) (.fa rfl tst90 rfl) ?_
                    refine VD.y rfl rfl (.inr ⟨_, _, rfl, _, rfl, rfl⟩) (.ld1 0 rfl tk3 rfl (hce5.at1 (j := 0) rfl)) ?_
                    refine VD.y rfl rfl (.inr ⟨_, _, rfl, _, rfl, rfl⟩) (.mv rfl) ?_
                    refine VD.y rfl rfl (.inr ⟨_, _, rfl, _, rfl, rfl⟩) (.mv rfl) ?_
                    refine VD.y rfl rfl (.inr ⟨_, _, rfl, _, rfl, rfl⟩) (.sub rfl rfl rfl ⟨bd, bd⟩) ?_
                    obtain ⟨x23, hx23⟩ : ∃ z_, (d0)[(((k : Nat) : Int) - 1).toNat]? = some z_ := ⟨_, List.getElem?_eq_getElem bd⟩
                    obtain ⟨gg23, oo23, ec23, ea23, hce23, hre23⟩ := h0.elem hx23
                    cases ea23
                    obtain ⟨rfl, q23_0, q23_1⟩ := open_Start (x0 := x23.1) (x1 := x23.2) hre23
                    simp only [inK] at q23_0
                    simp only [inK] at q23_1
                    refine VD.y rfl rfl (.inr ⟨_, _, rfl, _, rfl, rfl⟩) (.ixI ((((k : Nat) : Int) - 1).toNat) rfl rfl tsl70 bd bd) ?_
                    refine VD.y rfl rfl (.inr ⟨_, _, rfl, _, rfl, rfl⟩) (.fa rfl tst90 rfl) ?_
                    refine VD.y rfl rfl (.inr ⟨_, _, rfl, _, rfl, rfl⟩) (.ld1 0 rfl tk3 rfl (hce23.at1 (j := 0) rfl)) ?_
                    refine VD.y rfl rfl (.inr ⟨_, _, rfl, _, rfl, rfl⟩) (.leq rfl rfl) ?_
                    refine VD.y rfl rfl (.inr ⟨_, _, rfl, _, rfl, rfl⟩) (.mv rfl) ?_
                    refine VD.dec (s := 77) rfl (fun hc24 => ?_) (fun hc24 => ?_)
                    · -- FFFTFFFFTT
                      refine VD.gn rfl rfl (.inl ⟨_, rfl, rfl⟩) ?_
                      refine VD.gn rfl rfl (.inl ⟨_, rfl, rfl⟩) ?_
                      refine VD.gn rfl rfl (.inl ⟨_, rfl, rfl⟩) ?_
                      refine VD.gn rfl rfl (.inl ⟨_, rfl, rfl⟩) ?_
                      refine VD.gn rfl rfl (.inl ⟨_, rfl, rfl⟩) ?_
                      refine VD.gn rfl rfl (.inl ⟨_, rfl, rfl⟩) ?_
                      refine VD.gn rfl rfl (.inl ⟨_, rfl, rfl⟩) ?_
                      refine VD.gn rfl rfl (.inl ⟨_, rfl, rfl⟩) ?_
                      refine VD.gn rfl rfl (.inl ⟨_, rfl, rfl⟩) ?_
                      refine VD.gn rfl rfl (.inl ⟨_, rfl, rfl⟩) ?_
                      refine VD.gn rfl rfl (.inl ⟨_, rfl, rfl⟩) ?_
                      refine VD.nil rfl ?_ rfl
                      refine VO.gN ?_
                      refine VO.gy rfl ⟨_, rfl, rfl⟩ (.pT rfl rfl) ?_
                      refine VO.gy rfl ⟨_, rfl, rfl⟩ (.pT rfl rfl) ?_
                      refine VO.y rfl (.pF rfl rfl) ?_
                      refine VO.k6 0 1 5 19 23 92 ?_
                      refine outN ?_
                      refine VC.condT rfl ?_
                      refine VC.rs ?_
                      refine VO.as ?_
                      refine VO.kp [0] [(0, wm W)] ?_
                      refine VO.k7 0 1 4 5 19 23 92 ?_
                      refine VC.ret ?_
                      refine outBR ?_
                      refine outR ?_
                      refine outR ?_
                      refine outBR ?_
                      refine outR ?_
                      refine ⟨_, _, res_run (rs := [.tmp 4]) rfl (.tmp rfl .nil), fun W_ hI => out_of (l := []) hI [] rfl rfl (mle_refl _) (fun hS_ => ?_)⟩
                      dsimp only [packV]
                      all_goals (first | rfl | (exact fin0_sCheck8_ok))
                    · -- FFFTFFFFTF
                      refine VD.y rfl rfl (.inr ⟨_, _, rfl, _, rfl, rfl⟩) (.mv rfl) ?_
                      refine VD.y rfl rfl (.inr ⟨_, _, rfl, _, rfl, rfl⟩) (.mv rfl) ?_
                      refine VD.y rfl rfl (.inr ⟨_, _, rfl, _, rfl, rfl⟩) (.ixI k rfl rfl tsl70 rfl bd) ?_
                      refine VD.y rfl rfl (.inr ⟨_, _, rfl, _, rfl, rfl⟩) (.fa rfl tst90 rfl) ?_
                      refine VD.y rfl rfl (.inr ⟨_, _, rfl, _, rfl, rfl⟩) (.ld1 0 rfl tk3 rfl (hce5.at1 (j := 1) rfl)) ?_
                      refine VD.y rfl rfl (.inr ⟨_, _, rfl, _, rfl, rfl⟩) (.mv rfl) ?_
                      refine VD.y rfl rfl (.inr ⟨_, _, rfl, _, rfl, rfl⟩) (.mv rfl) ?_
                      refine VD.y rfl rfl (.inr ⟨_, _, rfl, _, rfl, rfl⟩) (.sub rfl rfl rfl ⟨bd, bd⟩) ?_
                      refine VD.y rfl rfl (.inr ⟨_, _, rfl, _, rfl, rfl⟩) (.ixI ((((k : Nat) : Int) - 1).toNat) rfl rfl tsl70 bd bd) ?_
                      refine VD.y rfl rfl (.inr ⟨_, _, rfl, _, rfl, rfl⟩) (.fa rfl tst90 rfl) ?_
                      refine VD.y rfl rfl (.inr ⟨_, _, rfl, _, rfl, rfl⟩) (.ld1 0 rfl tk3 rfl (hce23.at1 (j := 1) rfl)) ?_
                      refine VD.nil rfl ?_ rfl
                      refine VO.gy rfl ⟨_, rfl, rfl⟩ (.leq rfl rfl) ?_
                      refine VO.gy rfl ⟨_, rfl, rfl⟩ (.pF rfl rfl) ?_
                      refine VO.gy rfl ⟨_, rfl, rfl⟩ (.pT rfl rfl) ?_
                      refine VO.y rfl (.pF rfl rfl) ?_
                      refine VO.k6 0 1 5 19 23 92 ?_
                      refine outN ?_
                      refine VC.cond rfl (fun hc27 => ?_) (fun hc27 => ?_)
                      · -- FFFTFFFFTFT
                        refine VC.rs ?_
                        refine VO.as ?_
                        refine VO.kp [0] [(0, wm W)] ?_
                        refine VO.k7 0 1 4 5 19 23 92 ?_
                        refine VC.ret ?_
                        refine outBR ?_
                        refine outR ?_
                        refine outR ?_
                        refine outBR ?_
                        refine outR ?_
                        refine ⟨_, _, res_run (rs := [.tmp 4]) rfl (.tmp rfl .nil), fun W_ hI => out_of (l := []) hI [] rfl rfl (mle_refl _) (fun hS_ => ?_)⟩
                        dsimp only [packV]
                        all_goals (first | rfl | (exact fin0_sCheck8_ok))
                      · -- FFFTFFFFTFF
                        refine VC.skip ?_
                        refine outBN ?_
                        refine outN ?_
                        refine VC.reg ?_
                        refine VO.mv ?_
                        refine VO.y rfl (.add (c := ((k + 1 : Nat) : Int)) rfl rfl (by omega) ⟨bd, bd⟩) ?_
                        refine VO.as ?_
                        refine VO.kp [0] [(0, wm W)] ?_
                        refine VO.k6 0 1 5 19 23 92 ?_
                        exact outN ⟨k + 1, ⟨by omega, by (rw [prevS_next ‹d0[k]? = some _›]; omega), by exact hs.trans (step8 ‹d0[k]? = some _› (by omega) (by omega) (by omega) (by omega) (by first | (intro h_; exfalso; omega) | exact fun _ => ⟨_, by assumption, by omega, by omega⟩))⟩, bd, ⟨⟨rfl, rfl, rfl, rfl, trivial⟩, fun _ h => Inv.sub h [0]⟩⟩
                  · -- FFFTFFFFF
                    refine VD.gn rfl rfl (.inl ⟨_, rfl, rfl⟩) ?_
                    refine VD.gn rfl rfl (.inl ⟨_, rfl, rfl⟩) ?_
                    refine VD.gn rfl rfl (.inl ⟨_, rfl, rfl⟩) ?_
                    refine VD.gn rfl rfl (.inl ⟨_, rfl, rfl⟩) ?_
                    refine VD.gn rfl rfl (.inl ⟨_, rfl, rfl⟩) ?_
                    refine VD.gn rfl rfl (.inl ⟨_, rfl, rfl⟩) ?_
                    refine VD.gn rfl rfl (.inl ⟨_, rfl, rfl⟩) ?_
                    refine VD.gn rfl rfl (.inl ⟨_, rfl, rfl⟩) ?_
                    refine VD.gn rfl rfl (.inl ⟨_, rfl, rfl⟩) ?_
                    refine VD.gn rfl rfl (.inl ⟨_, rfl, rfl⟩) ?_
                    refine VD.gn rfl rfl (.inl ⟨_, rfl, rfl⟩) ?_
                    refine VD.gn rfl rfl (.inl ⟨_, rfl, rfl⟩) ?_
                    refine VD.gn rfl rfl (.inl ⟨_, rfl, rfl⟩) ?_
                    refine VD.gn rfl rfl (.inr ⟨_, rfl, rfl⟩) ?_
                    refine VD.gn rfl rfl (.inr ⟨_, rfl, rfl⟩) ?_
                    refine VD.gn rfl rfl (.inr ⟨_, rfl, rfl⟩) ?_
                    refine VD.gn rfl rfl (.inr ⟨_, rfl, rfl⟩) ?_
                    refine VD.gn rfl rfl (.inr ⟨_, rfl, rfl⟩) ?_
                    refine VD.gn rfl rfl (.inr ⟨_, rfl, rfl⟩) ?_
                    refine VD.gn rfl rfl (.inr ⟨_, rfl, rfl⟩) ?_
                    refine VD.gn rfl rfl (.inr ⟨_, rfl, rfl⟩) ?_
                    refine VD.gn rfl rfl (.inr ⟨_, rfl, rfl⟩) ?_
                    refine VD.gn rfl rfl (.inr ⟨_, rfl, rfl⟩) ?_
                    refine VD.gn rfl rfl (.inr ⟨_, rfl, rfl⟩) ?_
                    refine VD.nil rfl ?_ rfl
                    refine VO.gn rfl (.inr ⟨_, rfl, rfl⟩) ?_
                    refine VO.gN ?_
                    refine VO.gy rfl ⟨_, rfl, rfl⟩ (.pF rfl rfl) ?_
                    refine VO.y rfl (.pF rfl rfl) ?_
                    refine VO.k6 0 1 5 19 23 92 ?_
                    refine outN ?_
                    refine VC.condF rfl ?_
                    refine VC.skip ?_
                    refine outBN ?_
                    refine outN ?_
                    refine VC.reg ?_
                    refine VO.mv ?_
                    refine VO.y rfl (.add (c := ((k + 1 : Nat) : Int)) rfl rfl (by omega) ⟨bd, bd⟩) ?_
                    refine VO.as ?_
                    refine VO.kp [0] [(0, wm W)] ?_
                    refine VO.k6 0 1 5 19 23 92 ?_
                    exact outN ⟨k + 1, ⟨by omega, by (rw [prevS_next ‹d0[k]? = some _›]; omega), by exact hs.trans (step8 ‹d0[k]? = some _› (by omega) (by omega) (by omega) (by omega) (by first | (intro h_; exfalso; omega) | exact fun _ => ⟨_, by assumption, by omega, by omega⟩))⟩, bd, ⟨⟨rfl, rfl, rfl, rfl, trivial⟩, fun _ h => Inv.sub h [0]⟩⟩
        · -- FFFF
          refine VC.exit ?_
          refine outE ?_
          refine outE ?_
          refine outBB ?_
          refine outN ?_
          refine VC.rs ?_
          refine VO.as ?_
          refine VO.k6 0 1 4 5 19 23 ?_
          refine VC.ret ?_
          refine ⟨_, _, res_run (rs := [.tmp 4]) rfl (.tmp rfl .nil), fun W_ hI => out_of (l := []) hI [] rfl rfl (mle_refl _) (fun hS_ => ?_)⟩
          dsimp only [packV]
          all_goals (first | rfl | (exact fin0_sCheck8_ok))
theorem fin0_hello11_ok {P : Prop} (h : P := by first | exact congrArg Value.bool (decide_eq_false (by unfold helloM; omega)).symm | exact congrArg Value.bool (decide_eq_false (hello_last (by assumption) (by omega) (by omega))).symm | exact congrArg Value.bool (decide_eq_decide.2 (hello_iff ⟨by omega, by omega⟩ (by omega) (lastOk_good (by assumption) (by omega) (by omega)))) | exact congrArg Value.bool (decide_eq_decide.2 (hello_iff ⟨by omega, by omega⟩ (by omega) (lastOk_nil (by omega))))) : P := h
theorem hello11_ok (W : World) {v0 : List Value} {d0 : DMessage} (h0 : Rd TMessage (wm W) v0 d0) : CallR Try.prog 143 [.agg v0.toArray] W (mnil) (fun v m' => v = .bool (decide (helloM d0))) := by
  obtain ⟨p0_A4, p0_c4, p0_A7, p0_c7, rfl, p0_0, p0_1, p0_2, p0_3, p0_4, p0_5, p0_6, p0_7⟩ := open_Message (x0 := d0.1) (x1 := d0.2.1) (x2 := d0.2.2.1) (x3 := d0.2.2.2.1) (x4 := d0.2.2.2.2.1) (x5 := d0.2.2.2.2.2.1) (x6 := d0.2.2.2.2.2.2.1) (x7 := d0.2.2.2.2.2.2.2) h0
  simp only [inK] at p0_0
  simp only [inK] at p0_1
  simp only [inK] at p0_2
  simp only [inK] at p0_3
  have p0_r4 := Rd.room p0_4
  simp only [inK] at p0_5
  simp only [inK] at p0_6
  have p0_r7 := Rd.room p0_7
  refine CallR.ofA (n := 45) Try.func143 rfl rfl rfl ?_
  refine VC.rs ?_
  refine VO.box (cs := [Value.int .i64 (d0.1), Value.int .i64 (d0.2.1), Value.int .u8 (d0.2.2.1), Value.int .i64 (d0.2.2.2.1), Value.slice p0_A4 (d0.2.2.2.2.1.length) (p0_c4), Value.int .i64 (d0.2.2.2.2.2.1), Value.int .i64 (d0.2.2.2.2.2.2.1), Value.slice p0_A7 (d0.2.2.2.2.2.2.2.length) (p0_c7)]) 102 rfl rfl rfl (fun g1 => ?_)
  refine VO.as ?_
  refine VO.k3 0 1 2 ?_
  refine VC.seq ?_
  refine VC.rs ?_
  refine VO.y rfl (.fa rfl tst72 rfl) ?_
  refine VO.y rfl (.ld1 102 rfl tk69 rfl (cellsAt_one rfl rfl)) ?_
  refine VO.y rfl (.lss rfl rfl) ?_
  refine VO.mv ?_
  refine VO.dec (t := 7) rfl (fun hc3 => ?_) (fun hc3 => ?_)
  · -- T
    refine VO.gN ?_
    refine VO.gN ?_
    refine VO.gN ?_
    refine VO.y rfl (.pT rfl rfl) ?_
    refine VO.mv ?_
    refine VO.gN ?_
    refine VO.gN ?_
    refine VO.gN ?_
    refine VO.gN ?_
    refine VO.gN ?_
    refine VO.gN ?_
    refine VO.y rfl (.pT rfl rfl) ?_
    refine VO.k4 0 1 2 19 ?_
    refine VC.condT rfl ?_
    refine VC.rs ?_
    refine VO.as ?_
    refine VO.kp [102, 0] [(102, mone g1 (.cells [Value.int .i64 (d0.1), Value.int .i64 (d0.2.1), Value.int .u8 (d0.2.2.1), Value.int .i64 (d0.2.2.2.1), Value.slice p0_A4 (d0.2.2.2.2.1.length) (p0_c4), Value.int .i64 (d0.2.2.2.2.2.1), Value.int .i64 (d0.2.2.2.2.2.2.1), Value.slice p0_A7 (d0.2.2.2.2.2.2.2.length) (p0_c7)].toArray 72 (0, 0))), (0, wm W)] ?_
    refine VO.k4 0 1 2 19 ?_
    refine VC.ret ?_
    refine outR ?_
    refine ⟨_, _, res_run (rs := [.tmp 2]) rfl (.tmp rfl .nil), fun W_ hI => out_of (l := []) hI [] rfl rfl (mle_refl _) (fun hS_ => ?_)⟩
    dsimp only [packV]
    all_goals (first | rfl | (exact fin0_hello11_ok))
  · -- F
    refine VO.gy rfl ⟨_, rfl, rfl⟩ (.fa rfl tst72 rfl) ?_
    refine VO.gy rfl ⟨_, rfl, rfl⟩ (.ld1 102 rfl tk69 rfl (cellsAt_one rfl rfl)) ?_
    refine VO.gy rfl ⟨_, rfl, rfl⟩ (.gtr rfl rfl) ?_
    refine VO.y rfl (.pF rfl rfl) ?_
    refine VO.mv ?_
    refine VO.dec (t := 12) rfl (fun hc4 => ?_) (fun hc4 => ?_)
    · -- FT
      refine VO.gN ?_
      refine VO.gN ?_
      refine VO.gN ?_
      refine VO.gN ?_
      refine VO.gN ?_
      refine VO.gN ?_
      refine VO.y rfl (.pT rfl rfl) ?_
      refine VO.k4 0 1 2 19 ?_
      refine VC.condT rfl ?_
      refine VC.rs ?_
      refine VO.as ?_
      refine VO.kp [102, 0] [(102, mone g1 (.cells [Value.int .i64 (d0.1), Value.int .i64 (d0.2.1), Value.int .u8 (d0.2.2.1), Value.int .i64 (d0.2.2.2.1), Value.slice p0_A4 (d0.2.2.2.2.1.length) (p0_c4), Value.int .i64 (d0.2.2.2.2.2.1), Value.int .i64 (d0.2.2.2.2.2.2.1), Value.slice p0_A7 (d0.2.2.2.2.2.2.2.length) (p0_c7)].toArray 72 (0, 0))), (0, wm W)] ?_
      refine VO.k4 0 1 2 19 ?_
      refine VC.ret ?_
      refine outR ?_
      refine ⟨_, _, res_run (rs := [.tmp 2]) rfl (.tmp rfl .nil), fun W_ hI => out_of (l := []) hI [] rfl rfl (mle_refl _) (fun hS_ => ?_)⟩
      dsimp only [packV]
      all_goals (first | rfl | (exact fin0_hello11_ok))
    · -- FF
      refine VO.gy rfl ⟨_, rfl, rfl⟩ (.fa rfl tst72 rfl) ?_
      refine VO.gy rfl ⟨_, rfl, rfl⟩ (.ld1 102 rfl tk70 rfl (cellsAt_one rfl rfl)) ?_
      refine VO.gy rfl ⟨_, rfl, rfl⟩ (.fa rfl tst72 rfl) ?_
      refine VO.gy rfl ⟨_, rfl, rfl⟩ (.ld1 102 rfl tk3 rfl (cellsAt_one rfl rfl)) ?_
      refine VO.gcallN 105 rfl ⟨_, rfl, rfl⟩ fnOk149 rfl (fun W hW => sCheck8_ok W (Rd.mono p0_4 (hW.at (i := 0) rfl)) d0.2.2.2.1 bdk) (fun v5 m5 hv5 => ?_)
      subst hv5
      have hfa6 := sCheck_range d0.2.2.2.2.1 d0.2.2.2.1
      refine VO.gy rfl ⟨_, rfl, rfl⟩ (.neq rfl rfl) ?_
      refine VO.y rfl (.pF rfl rfl) ?_
      refine VO.k4 0 1 2 19 ?_
      refine VC.cond rfl (fun hc7 => ?_) (fun hc7 => ?_)
      · -- FFT
        refine VC.rs ?_
        refine VO.as ?_
        refine VO.kp [102, 0] [(102, mone g1 (.cells [Value.int .i64 (d0.1), Value.int .i64 (d0.2.1), Value.int .u8 (d0.2.2.1), Value.int .i64 (d0.2.2.2.1), Value.slice p0_A4 (d0.2.2.2.2.1.length) (p0_c4), Value.int .i64 (d0.2.2.2.2.2.1), Value.int .i64 (d0.2.2.2.2.2.2.1), Value.slice p0_A7 (d0.2.2.2.2.2.2.2.length) (p0_c7)].toArray 72 (0, 0))), (0, wm W)] ?_
        refine VO.k4 0 1 2 19 ?_
        refine VC.ret ?_
        refine outR ?_
        refine ⟨_, _, res_run (rs := [.tmp 2]) rfl (.tmp rfl .nil), fun W_ hI => out_of (l := []) hI [] rfl rfl (mle_refl _) (fun hS_ => ?_)⟩
        dsimp only [packV]
        all_goals (first | rfl | (exact fin0_hello11_ok))
      · -- FFF
        refine VC.skip ?_
        refine outN ?_
        refine VC.rs ?_
        refine VO.y rfl (.fa rfl tst72 rfl) ?_
        refine VO.y rfl (.ld1 102 rfl tk70 rfl (cellsAt_one rfl rfl)) ?_
        refine VO.y rfl (.lenS rfl tsl70) ?_
        refine VO.as ?_
        refine VO.kp [102, 0] [(102, mone g1 (.cells [Value.int .i64 (d0.1), Value.int .i64 (d0.2.1), Value.int .u8 (d0.2.2.1), Value.int .i64 (d0.2.2.2.1), Value.slice p0_A4 (d0.2.2.2.2.1.length) (p0_c4), Value.int .i64 (d0.2.2.2.2.2.1), Value.int .i64 (d0.2.2.2.2.2.2.1), Value.slice p0_A7 (d0.2.2.2.2.2.2.2.length) (p0_c7)].toArray 72 (0, 0))), (0, wm W)] ?_
        refine VO.k5 0 1 2 3 19 ?_
        refine VC.seq ?_
        refine VC.seq ?_
        refine VC.regD _ 12 [(0, true), (1, true), (2, true), (3, true), (4, true), (5, true), (6, true), (7, true), (8, true), (9, true), (10, true), (11, true)] follows (by kernel_rfl) (fun _ h => h.sub [102, 0]) ?_
        refine VD.y rfl rfl (.inl rfl) (.mv rfl) ?_
        refine VD.y rfl rfl (.inl rfl) (.gtr rfl rfl) ?_
        refine VD.y rfl rfl (.inl rfl) (.mv rfl) ?_
        refine VD.dec (s := 25) rfl (fun hc8 => ?_) (fun hc8 => ?_)
        · -- FFFT
          refine VD.y rfl rfl (.inr ⟨_, _, rfl, _, rfl, rfl⟩) (.fa rfl tst72 rfl) ?_
          refine VD.y rfl rfl (.inr ⟨_, _, rfl, _, rfl, rfl⟩) (.ld1 102 rfl tk70 rfl (cellsAt_one rfl rfl)) ?_
          refine VD.y rfl rfl (.inr ⟨_, _, rfl, _, rfl, rfl⟩) (.mv rfl) ?_
          refine VD.y rfl rfl (.inr ⟨_, _, rfl, _, rfl, rfl⟩) (.sub rfl rfl rfl ⟨bd, bd⟩) ?_
          obtain ⟨x9, hx9⟩ : ∃ z_, (d0.2.2.2.2.1)[(((d0.2.2.2.2.1.length : Nat) : Int) - 1).toNat]? = some z_ := ⟨_, List.getElem?_eq_getElem bd⟩
          obtain ⟨gg9, oo9, ec9, ea9, hce9, hre9⟩ := p0_4.elem hx9
          cases ea9
          obtain ⟨rfl, q9_0, q9_1⟩ := open_Start (x0 := x9.1) (x1 := x9.2) hre9
          simp only [inK] at q9_0
          simp only [inK] at q9_1
          refine VD.y rfl rfl (.inr ⟨_, _, rfl, _, rfl, rfl⟩) (.ixI ((((d0.2.2.2.2.1.length : Nat) : Int) - 1).toNat) rfl rfl tsl70 bd bd) ?_
          refine VD.y rfl rfl (.inr ⟨_, _, rfl, _, rfl, rfl⟩) (.fa rfl tst90 rfl) ?_
          refine VD.y rfl rfl (.inr ⟨_, _, rfl, _, rfl, rfl⟩) (.ld1 0 rfl tk3 rfl (hce9.at1 (j := 0) rfl)) ?_
          refine VD.y rfl rfl (.inr ⟨_, _, rfl, _, rfl, rfl⟩) (.fa rfl tst72 rfl) ?_
          refine VD.y rfl rfl (.inr ⟨_, _, rfl, _, rfl, rfl⟩) (.ld1 102 rfl tk3 rfl (cellsAt_one rfl rfl)) ?_
          refine VD.nil rfl ?_ rfl
          refine VO.gy rfl ⟨_, rfl, rfl⟩ (.gtr rfl rfl) ?_
          refine VO.y rfl (.pT rfl rfl) ?_
          refine VO.k6 0 1 2 3 19 36 ?_
          refine outN ?_
          refine VC.cond rfl (fun hc10 => ?_) (fun hc10 => ?_)
          · -- FFFTT
            refine VC.rs ?_
            refine VO.as ?_
            refine VO.k6 0 1 2 3 19 36 ?_
            refine VC.ret ?_
            refine outR ?_
            refine ⟨_, _, res_run (rs := [.tmp 2]) rfl (.tmp rfl .nil), fun W_ hI => out_of (l := []) hI [] rfl rfl (mle_refl _) (fun hS_ => ?_)⟩
            dsimp only [packV]
            all_goals (first | rfl | (exact fin0_hello11_ok))
          · -- FFFTF
            refine VC.skip ?_
            refine outN ?_
            refine VC.rs ?_
            refine VO.y rfl (.fa rfl tst72 rfl) ?_
            refine VO.y rfl (.ld1 102 rfl tk3 rfl (cellsAt_one rfl rfl)) ?_
            refine VO.y rfl (.fa rfl tst72 rfl) ?_
            refine VO.y rfl (.ld1 102 rfl tk3 rfl (cellsAt_one rfl rfl)) ?_
            refine VO.y rfl (.fa rfl tst72 rfl) ?_
            refine VO.y rfl (.ld1 102 rfl tk61 rfl (cellsAt_one rfl rfl)) ?_
            refine VO.y rfl (.bst (cs := [Value.int .i64 (0), Value.int .i64 (0), Value.int .u8 (0), Value.int .i64 (0), Value.slice none (0) (0), Value.int .i64 (d0.2.2.2.2.2.1), Value.int .i64 (d0.2.2.2.2.2.2.1), Value.slice p0_A7 (d0.2.2.2.2.2.2.2.length) (p0_c7)]) rfl tst72 tz72 rfl) ?_
            refine VO.callN 111 rfl fnOk145 rfl (fun W hW => plain11_ok W (mk_Message (m := wm W) 0 0 0 0 [] d0.2.2.2.2.2.1 d0.2.2.2.2.2.2.1 d0.2.2.2.2.2.2.2 bdk bdk bdk bdk (Rd.nil _ _ none 0 (Nat.zero_le _)) bdk bdk (Rd.mono p0_7 (hW.at (i := 0) rfl)))) (fun v11 m11 hv11 => ?_)
            try dsimp only at hv11
            subst hv11
            refine VO.as ?_
            refine VO.k6 0 1 2 3 19 36 ?_
            refine VC.ret ?_
            refine ⟨_, _, res_run (rs := [.tmp 2]) rfl (.tmp rfl .nil), fun W_ hI => out_of (l := []) hI [] rfl rfl (mle_refl _) (fun hS_ => ?_)⟩
            dsimp only [packV]
            all_goals (first | rfl | (exact fin0_hello11_ok))
        · -- FFFF
          refine VD.gn rfl rfl (.inl ⟨_, rfl, rfl⟩) ?_
          refine VD.gn rfl rfl (.inl ⟨_, rfl, rfl⟩) ?_
          refine VD.gn rfl rfl (.inl ⟨_, rfl, rfl⟩) ?_
          refine VD.gn rfl rfl (.inl ⟨_, rfl, rfl⟩) ?_
          refine VD.gn rfl rfl (.inl ⟨_, rfl, rfl⟩) ?_
          refine VD.gn rfl rfl (.inl ⟨_, rfl, rfl⟩) ?_
          refine VD.gn rfl rfl (.inl ⟨_, rfl, rfl⟩) ?_
          refine VD.gn rfl rfl (.inl ⟨_, rfl, rfl⟩) ?_
          refine VD.gn rfl rfl (.inl ⟨_, rfl, rfl⟩) ?_
          refine VD.nil rfl ?_ rfl
          refine VO.gN ?_
          refine VO.y rfl (.pF rfl rfl) ?_
          refine VO.k6 0 1 2 3 19 36 ?_
          refine outN ?_
          refine VC.condF rfl ?_
          refine VC.skip ?_
          refine outN ?_
          refine VC.rs ?_
          refine VO.y rfl (.fa rfl tst72 rfl) ?_
          refine VO.y rfl (.ld1 102 rfl tk3 rfl (cellsAt_one rfl rfl)) ?_
          refine VO.y rfl (.fa rfl tst72 rfl) ?_
          refine VO.y rfl (.ld1 102 rfl tk3 rfl (cellsAt_one rfl rfl)) ?_
          refine VO.y rfl (.fa rfl tst72 rfl) ?_
          refine VO.y rfl (.ld1 102 rfl tk61 rfl (cellsAt_one rfl rfl)) ?_
          refine VO.y rfl (.bst (cs := [Value.int .i64 (0), Value.int .i64 (0), Value.int .u8 (0), Value.int .i64 (0), Value.slice none (0) (0), Value.int .i64 (d0.2.2.2.2.2.1), Value.int .i64 (d0.2.2.2.2.2.2.1), Value.slice p0_A7 (d0.2.2.2.2.2.2.2.length) (p0_c7)]) rfl tst72 tz72 rfl) ?_
          refine VO.callN 112 rfl fnOk145 rfl (fun W hW => plain11_ok W (mk_Message (m := wm W) 0 0 0 0 [] d0.2.2.2.2.2.1 d0.2.2.2.2.2.2.1 d0.2.2.2.2.2.2.2 bdk bdk bdk bdk (Rd.nil _ _ none 0 (Nat.zero_le _)) bdk bdk (Rd.mono p0_7 (hW.at (i := 0) rfl)))) (fun v12 m12 hv12 => ?_)
          try dsimp only at hv12
          subst hv12
          refine VO.as ?_
          refine VO.k6 0 1 2 3 19 36 ?_
          refine VC.ret ?_
          refine ⟨_, _, res_run (rs := [.tmp 2]) rfl (.tmp rfl .nil), fun W_ hI => out_of (l := []) hI [] rfl rfl (mle_refl _) (fun hS_ => ?_)⟩
          dsimp only [packV]
          all_goals (first | rfl | (exact fin0_hello11_ok))
theorem fin0_shipped11_ok {P : Prop} (h : P := by first | exact congrArg Value.bool (decide_eq_false (by unfold shipM; omega)).symm | exact congrArg Value.bool (decide_eq_false (ship_len (by assumption))).symm | exact congrArg Value.bool (decide_eq_false (fun e => by have := e.2.2.2.2.2.1 _ (List.mem_of_getElem? ‹_[k]? = some _›); omega)).symm | exact congrArg Value.bool (decide_eq_false (fun e => absurd (none_iff.2 e.2.2.2.2.1) (by assumption))).symm | exact congrArg Value.bool (decide_eq_decide.2 (by have ha2 := ha; rw [List.take_of_length_le (by omega)] at ha2; exact ship_iff (by omega) (by omega) ‹¬ ¬ decide _ = decide _› (by omega) (And.left (by assumption)) ha2))) : P := h
theorem shipped11_ok (W : World) {v0 : List Value} {d0 : DMessage} (h0 : Rd TMessage (wm W) v0 d0) : CallR Try.prog 144 [.agg v0.toArray] W (mnil) (fun v m' => v = .bool (decide (shipM d0))) := by
  obtain ⟨p0_A4, p0_c4, p0_A7, p0_c7, rfl, p0_0, p0_1, p0_2, p0_3, p0_4, p0_5, p0_6, p0_7⟩ := open_Message (x0 := d0.1) (x1 := d0.2.1) (x2 := d0.2.2.1) (x3 := d0.2.2.2.1) (x4 := d0.2.2.2.2.1) (x5 := d0.2.2.2.2.2.1) (x6 := d0.2.2.2.2.2.2.1) (x7 := d0.2.2.2.2.2.2.2) h0
  simp only [inK] at p0_0
  simp only [inK] at p0_1
  simp only [inK] at p0_2
  simp only [inK] at p0_3
  have p0_r4 := Rd.room p0_4
  simp only [inK] at p0_5
  simp only [inK] at p0_6
  have p0_r7 := Rd.room p0_7
  refine CallR.ofA (n := 75) Try.func144 rfl rfl rfl ?_
  refine VC.rs ?_
  refine VO.box (cs := [Value.int .i64 (d0.1), Value.int .i64 (d0.2.1), Value.int .u8 (d0.2.2.1), Value.int .i64 (d0.2.2.2.1), Value.slice p0_A4 (d0.2.2.2.2.1.length) (p0_c4), Value.int .i64 (d0.2.2.2.2.2.1), Value.int .i64 (d0.2.2.2.2.2.2.1), Value.slice p0_A7 (d0.2.2.2.2.2.2.2.length) (p0_c7)]) 102 rfl rfl rfl (fun g1 => ?_)
  refine VO.as ?_
  refine VO.k3 0 1 2 ?_
  refine VC.seq ?_
  refine VC.rs ?_
  refine VO.y rfl (.fa rfl tst72 rfl) ?_
  refine VO.y rfl (.ld1 102 rfl tk3 rfl (cellsAt_one rfl rfl)) ?_
  refine VO.y rfl (.lss rfl rfl) ?_
  refine VO.mv ?_
  refine VO.dec (t := 7) rfl (fun hc3 => ?_) (fun hc3 => ?_)
  · -- T
    refine VO.gN ?_
    refine VO.gN ?_
    refine VO.gN ?_
    refine VO.y rfl (.pT rfl rfl) ?_
    refine VO.mv ?_
    refine VO.gN ?_
    refine VO.gN ?_
    refine VO.gN ?_
    refine VO.y rfl (.pT rfl rfl) ?_
    refine VO.mv ?_
    refine VO.gN ?_
    refine VO.gN ?_
    refine VO.gN ?_
    refine VO.gN ?_
    refine VO.gN ?_
    refine VO.y rfl (.pT rfl rfl) ?_
    refine VO.mv ?_
    refine VO.gN ?_
    refine VO.gN ?_
    refine VO.gN ?_
    refine VO.gN ?_
    refine VO.gN ?_
    refine VO.gN ?_
    refine VO.gN ?_
    refine VO.y rfl (.pT rfl rfl) ?_
    refine VO.mv ?_
    refine VO.gN ?_
    refine VO.gN ?_
    refine VO.gN ?_
    refine VO.gN ?_
    refine VO.y rfl (.pT rfl rfl) ?_
    refine VO.k4 0 1 2 38 ?_
    refine VC.condT rfl ?_
    refine VC.rs ?_
    refine VO.as ?_
    refine VO.kp [102, 0] [(102, mone g1 (.cells [Value.int .i64 (d0.1), Value.int .i64 (d0.2.1), Value.int .u8 (d0.2.2.1), Value.int .i64 (d0.2.2.2.1), Value.slice p0_A4 (d0.2.2.2.2.1.length) (p0_c4), Value.int .i64 (d0.2.2.2.2.2.1), Value.int .i64 (d0.2.2.2.2.2.2.1), Value.slice p0_A7 (d0.2.2.2.2.2.2.2.length) (p0_c7)].toArray 72 (0, 0))), (0, wm W)] ?_
    refine VO.k4 0 1 2 38 ?_
    refine VC.ret ?_
    refine outR ?_
    refine ⟨_, _, res_run (rs := [.tmp 2]) rfl (.tmp rfl .nil), fun W_ hI => out_of (l := []) hI [] rfl rfl (mle_refl _) (fun hS_ => ?_)⟩
    dsimp only [packV]
    all_goals (first | rfl | (exact fin0_shipped11_ok))
  · -- F
    refine VO.gy rfl ⟨_, rfl, rfl⟩ (.fa rfl tst72 rfl) ?_
    refine VO.gy rfl ⟨_, rfl, rfl⟩ (.ld1 102 rfl tk3 rfl (cellsAt_one rfl rfl)) ?_
    refine VO.gy rfl ⟨_, rfl, rfl⟩ (.gtr rfl rfl) ?_
    refine VO.y rfl (.pF rfl rfl) ?_
    refine VO.mv ?_
    refine VO.dec (t := 12) rfl (fun hc4 => ?_) (fun hc4 => ?_)
    · -- FT
      refine VO.gN ?_
      refine VO.gN ?_
      refine VO.gN ?_
      refine VO.y rfl (.pT rfl rfl) ?_
      refine VO.mv ?_
      refine VO.gN ?_
      refine VO.gN ?_
      refine VO.gN ?_
      refine VO.gN ?_
      refine VO.gN ?_
      refine VO.y rfl (.pT rfl rfl) ?_
      refine VO.mv ?_
      refine VO.gN ?_
      refine VO.gN ?_
      refine VO.gN ?_
      refine VO.gN ?_
      refine VO.gN ?_
      refine VO.gN ?_
      refine VO.gN ?_
      refine VO.y rfl (.pT rfl rfl) ?_
      refine VO.mv ?_
      refine VO.gN ?_
      refine VO.gN ?_
      refine VO.gN ?_
      refine VO.gN ?_
      refine VO.y rfl (.pT rfl rfl) ?_
      refine VO.k4 0 1 2 38 ?_
      refine VC.condT rfl ?_
      refine VC.rs ?_
      refine VO.as ?_
      refine VO.kp [102, 0] [(102, mone g1 (.cells [Value.int .i64 (d0.1), Value.int .i64 (d0.2.1), Value.int .u8 (d0.2.2.1), Value.int .i64 (d0.2.2.2.1), Value.slice p0_A4 (d0.2.2.2.2.1.length) (p0_c4), Value.int .i64 (d0.2.2.2.2.2.1), Value.int .i64 (d0.2.2.2.2.2.2.1), Value.slice p0_A7 (d0.2.2.2.2.2.2.2.length) (p0_c7)].toArray 72 (0, 0))), (0, wm W)] ?_
      refine VO.k4 0 1 2 38 ?_
      refine VC.ret ?_
      refine outR ?_
      refine ⟨_, _, res_run (rs := [.tmp 2]) rfl (.tmp rfl .nil), fun W_ hI => out_of (l := []) hI [] rfl rfl (mle_refl _) (fun hS_ => ?_)⟩
      dsimp only [packV]
      all_goals (first | rfl | (exact fin0_shipped11_ok))
    · -- FF
      refine VO.gy rfl ⟨_, rfl, rfl⟩ (.fa rfl tst72 rfl) ?_
      refine VO.gy rfl ⟨_, rfl, rfl⟩ (.ld1 102 rfl tk3 rfl (cellsAt_one rfl rfl)) ?_
      refine VO.gy rfl ⟨_, rfl, rfl⟩ (.lss rfl rfl) ?_
      refine VO.y rfl (.pF rfl rfl) ?_
      refine VO.mv ?_
      refine VO.dec (t := 17) rfl (fun hc5 => ?_) (fun hc5 => ?_)
      · -- FFT
        refine VO.gN ?_
        refine VO.gN ?_
        refine VO.gN ?_
        refine VO.gN ?_
        refine VO.gN ?_
        refine VO.y rfl (.pT rfl rfl) ?_
        refine VO.mv ?_
        refine VO.gN ?_
        refine VO.gN ?_
        refine VO.gN ?_
        refine VO.gN ?_
        refine VO.gN ?_
        refine VO.gN ?_
        refine VO.gN ?_
        refine VO.y rfl (.pT rfl rfl) ?_
        refine VO.mv ?_
        refine VO.gN ?_
        refine VO.gN ?_
        refine VO.gN ?_
        refine VO.gN ?_
        refine VO.y rfl (.pT rfl rfl) ?_
        refine VO.k4 0 1 2 38 ?_
        refine VC.condT rfl ?_
        refine VC.rs ?_
        refine VO.as ?_
        refine VO.kp [102, 0] [(102, mone g1 (.cells [Value.int .i64 (d0.1), Value.int .i64 (d0.2.1), Value.int .u8 (d0.2.2.1), Value.int .i64 (d0.2.2.2.1), Value.slice p0_A4 (d0.2.2.2.2.1.length) (p0_c4), Value.int .i64 (d0.2.2.2.2.2.1), Value.int .i64 (d0.2.2.2.2.2.2.1), Value.slice p0_A7 (d0.2.2.2.2.2.2.2.length) (p0_c7)].toArray 72 (0, 0))), (0, wm W)] ?_
        refine VO.k4 0 1 2 38 ?_
        refine VC.ret ?_
        refine outR ?_
        refine ⟨_, _, res_run (rs := [.tmp 2]) rfl (.tmp rfl .nil), fun W_ hI => out_of (l := []) hI [] rfl rfl (mle_refl _) (fun hS_ => ?_)⟩
        dsimp only [packV]
        all_goals (first | rfl | (exact fin0_shipped11_ok))
      · -- FFF
        refine VO.gy rfl ⟨_, rfl, rfl⟩ (.fa rfl tst72 rfl) ?_
        refine VO.gy rfl ⟨_, rfl, rfl⟩ (.ld1 102 rfl tk3 rfl (cellsAt_one rfl rfl)) ?_
        refine VO.gy rfl ⟨_, rfl, rfl⟩ (.fa rfl tst72 rfl) ?_
        refine VO.gy rfl ⟨_, rfl, rfl⟩ (.ld1 102 rfl tk3 rfl (cellsAt_one rfl rfl)) ?_
        refine VO.gy rfl ⟨_, rfl, rfl⟩ (.gtr rfl rfl) ?_
        refine VO.y rfl (.pF rfl rfl) ?_
        refine VO.mv ?_
        refine VO.dec (t := 24) rfl (fun hc6 => ?_) (fun hc6 => ?_)
        · -- FFFT
          refine VO.gN ?_
          refine VO.gN ?_
          refine VO.gN ?_
          refine VO.gN ?_
          refine VO.gN ?_
          refine VO.gN ?_
          refine VO.gN ?_
          refine VO.y rfl (.pT rfl rfl) ?_
          refine VO.mv ?_
          refine VO.gN ?_
          refine VO.gN ?_
          refine VO.gN ?_
          refine VO.gN ?_
          refine VO.y rfl (.pT rfl rfl) ?_
          refine VO.k4 0 1 2 38 ?_
          refine VC.condT rfl ?_
          refine VC.rs ?_
          refine VO.as ?_
          refine VO.kp [102, 0] [(102, mone g1 (.cells [Value.int .i64 (d0.1), Value.int .i64 (d0.2.1), Value.int .u8 (d0.2.2.1), Value.int .i64 (d0.2.2.2.1), Value.slice p0_A4 (d0.2.2.2.2.1.length) (p0_c4), Value.int .i64 (d0.2.2.2.2.2.1), Value.int .i64 (d0.2.2.2.2.2.2.1), Value.slice p0_A7 (d0.2.2.2.2.2.2.2.length) (p0_c7)].toArray 72 (0, 0))), (0, wm W)] ?_
          refine VO.k4 0 1 2 38 ?_
          refine VC.ret ?_
          refine outR ?_
          refine ⟨_, _, res_run (rs := [.tmp 2]) rfl (.tmp rfl .nil), fun W_ hI => out_of (l := []) hI [] rfl rfl (mle_refl _) (fun hS_ => ?_)⟩
          dsimp only [packV]
          all_goals (first | rfl | (exact fin0_shipped11_ok))
        · -- FFFF
          refine VO.gy rfl ⟨_, rfl, rfl⟩ (.fa rfl tst72 rfl) ?_
          refine VO.gy rfl ⟨_, rfl, rfl⟩ (.ld1 102 rfl tk3 rfl (cellsAt_one rfl rfl)) ?_
          refine VO.gy rfl ⟨_, rfl, rfl⟩ (.eql rfl rfl) ?_
          refine VO.gy rfl ⟨_, rfl, rfl⟩ (.fa rfl tst72 rfl) ?_
          refine VO.gy rfl ⟨_, rfl, rfl⟩ (.ld1 102 rfl tk3 rfl (cellsAt_one rfl rfl)) ?_
          refine VO.gy rfl ⟨_, rfl, rfl⟩ (.eql rfl rfl) ?_
          refine VO.gy rfl ⟨_, rfl, rfl⟩ (.bneq rfl rfl Try.underlying4) ?_
          refine VO.y rfl (.pF rfl rfl) ?_
          refine VO.mv ?_
          refine VO.dec (t := 33) rfl (fun hc7 => ?_) (fun hc7 => ?_)
          · -- FFFFT
            refine VO.gN ?_
            refine VO.gN ?_
            refine VO.gN ?_
            refine VO.gN ?_
            refine VO.y rfl (.pT rfl rfl) ?_
            refine VO.k4 0 1 2 38 ?_
            refine VC.condT rfl ?_
            refine VC.rs ?_
            refine VO.as ?_
            refine VO.kp [102, 0] [(102, mone g1 (.cells [Value.int .i64 (d0.1), Value.int .i64 (d0.2.1), Value.int .u8 (d0.2.2.1), Value.int .i64 (d0.2.2.2.1), Value.slice p0_A4 (d0.2.2.2.2.1.length) (p0_c4), Value.int .i64 (d0.2.2.2.2.2.1), Value.int .i64 (d0.2.2.2.2.2.2.1), Value.slice p0_A7 (d0.2.2.2.2.2.2.2.length) (p0_c7)].toArray 72 (0, 0))), (0, wm W)] ?_
            refine VO.k4 0 1 2 38 ?_
            refine VC.ret ?_
            refine outR ?_
            refine ⟨_, _, res_run (rs := [.tmp 2]) rfl (.tmp rfl .nil), fun W_ hI => out_of (l := []) hI [] rfl rfl (mle_refl _) (fun hS_ => ?_)⟩
            dsimp only [packV]
            all_goals (first | rfl | (exact fin0_shipped11_ok))
          · -- FFFFF
            refine VO.gy rfl ⟨_, rfl, rfl⟩ (.fa rfl tst72 rfl) ?_
            refine VO.gy rfl ⟨_, rfl, rfl⟩ (.ld1 102 rfl tk61 rfl (cellsAt_one rfl rfl)) ?_
            refine VO.gy rfl ⟨_, rfl, rfl⟩ (.lenS rfl tsl61) ?_
            refine VO.gy rfl ⟨_, rfl, rfl⟩ (.gtr rfl rfl) ?_
            refine VO.y rfl (.pF rfl rfl) ?_
            refine VO.k4 0 1 2 38 ?_
            refine VC.cond rfl (fun hc8 => ?_) (fun hc8 => ?_)
            · -- FFFFFT
              refine VC.rs ?_
              refine VO.as ?_
              refine VO.kp [102, 0] [(102, mone g1 (.cells [Value.int .i64 (d0.1), Value.int .i64 (d0.2.1), Value.int .u8 (d0.2.2.1), Value.int .i64 (d0.2.2.2.1), Value.slice p0_A4 (d0.2.2.2.2.1.length) (p0_c4), Value.int .i64 (d0.2.2.2.2.2.1), Value.int .i64 (d0.2.2.2.2.2.2.1), Value.slice p0_A7 (d0.2.2.2.2.2.2.2.length) (p0_c7)].toArray 72 (0, 0))), (0, wm W)] ?_
              refine VO.k4 0 1 2 38 ?_
              refine VC.ret ?_
              refine outR ?_
              refine ⟨_, _, res_run (rs := [.tmp 2]) rfl (.tmp rfl .nil), fun W_ hI => out_of (l := []) hI [] rfl rfl (mle_refl _) (fun hS_ => ?_)⟩
              dsimp only [packV]
              all_goals (first | rfl | (exact fin0_shipped11_ok))
            · -- FFFFFF
              refine VC.skip ?_
              refine outN ?_
              refine VC.seq ?_
              refine VC.rs ?_
              refine VO.as ?_
              refine VO.kp [102, 0] [(102, mone g1 (.cells [Value.int .i64 (d0.1), Value.int .i64 (d0.2.1), Value.int .u8 (d0.2.2.1), Value.int .i64 (d0.2.2.2.1), Value.slice p0_A4 (d0.2.2.2.2.1.length) (p0_c4), Value.int .i64 (d0.2.2.2.2.2.1), Value.int .i64 (d0.2.2.2.2.2.2.1), Value.slice p0_A7 (d0.2.2.2.2.2.2.2.length) (p0_c7)].toArray 72 (0, 0))), (0, wm W)] ?_
              refine VO.k5 0 1 2 3 38 ?_
              refine VC.block ?_
              refine VC.loop (G := Nat) (fun k => [(3, Value.int .i64 (((k : Nat) : Int))), (0, Value.agg [Value.int .i64 (d0.1), Value.int .i64 (d0.2.1), Value.int .u8 (d0.2.2.1), Value.int .i64 (d0.2.2.2.1), Value.slice p0_A4 (d0.2.2.2.2.1.length) (p0_c4), Value.int .i64 (d0.2.2.2.2.2.1), Value.int .i64 (d0.2.2.2.2.2.2.1), Value.slice p0_A7 (d0.2.2.2.2.2.2.2.length) (p0_c7)].toArray), (1, Value.pointer (some ⟨g1, 0, none⟩)), (38, Value.bool (decide (4 < ((d0.2.2.2.2.2.2.2.length : Nat) : Int))))]) (fun k => [(102, mone g1 (.cells [Value.int .i64 (d0.1), Value.int .i64 (d0.2.1), Value.int .u8 (d0.2.2.1), Value.int .i64 (d0.2.2.2.1), Value.slice p0_A4 (d0.2.2.2.2.1.length) (p0_c4), Value.int .i64 (d0.2.2.2.2.2.1), Value.int .i64 (d0.2.2.2.2.2.2.1), Value.slice p0_A7 (d0.2.2.2.2.2.2.2.length) (p0_c7)].toArray 72 (0, 0))), (0, wm W)]) (fun k => (k ≤ d0.2.2.2.2.2.2.2.length) ∧ (∀ c ∈ d0.2.2.2.2.2.2.2.take k, c.1 ≤ d0.2.1)) (fun k => d0.2.2.2.2.2.2.2.length - k) 0 (⟨by omega, by simp⟩) ⟨⟨rfl, rfl, rfl, rfl, trivial⟩, fun _ h => h.sub [102, 0]⟩ ?_
              rintro k ⟨hk, ha⟩
              refine VC.seq ?_
              refine VC.rs ?_
              refine VO.mv ?_
              refine VO.y rfl (.fa rfl tst72 rfl) ?_
              refine VO.y rfl (.ld1 102 rfl tk61 rfl (cellsAt_one rfl rfl)) ?_
              refine VO.y rfl (.lenS rfl tsl61) ?_
              refine VO.y rfl (.lss rfl rfl) ?_
              refine VO.k5 0 1 3 38 43 ?_
              refine VC.cond rfl (fun hc9 => ?_) (fun hc9 => ?_)
              · -- FFFFFFT
                refine VC.skip ?_
                refine outN ?_
                refine VC.seq ?_
                refine VC.block ?_
                refine VC.seq ?_
                refine VC.regD _ 8 [(0, true), (1, true), (2, true), (3, true), (4, true), (5, true), (6, true), (7, true)] follows (by kernel_rfl) (fun _ h => h.sub [102, 0]) ?_
                refine VD.y rfl rfl (.inl rfl) (.fa rfl tst72 rfl) ?_
                refine VD.y rfl rfl (.inl rfl) (.ld1 102 rfl tk61 rfl (cellsAt_one rfl rfl)) ?_
                refine VD.y rfl rfl (.inl rfl) (.mv rfl) ?_
                obtain ⟨x10, hx10⟩ : ∃ z_, (d0.2.2.2.2.2.2.2)[k]? = some z_ := ⟨_, List.getElem?_eq_getElem bd⟩
                obtain ⟨gg10, oo10, ec10, ea10, hce10, hre10⟩ := p0_7.elem hx10
                cases ea10
                obtain ⟨q10_A2, q10_c2, rfl, q10_0, q10_1, q10_2⟩ := open_Commit (x0 := x10.1) (x1 := x10.2.1) (x2 := x10.2.2) hre10
                simp only [inK] at q10_0
                simp only [inK] at q10_1
                have q10_r2 := Rd.room q10_2
                refine VD.y rfl rfl (.inl rfl) (.ixI k rfl rfl tsl61 rfl bd) ?_
                refine VD.y rfl rfl (.inl rfl) (.fa rfl tst52 rfl) ?_
                refine VD.y rfl rfl (.inl rfl) (.ld1 0 rfl tk3 rfl (hce10.at1 (j := 0) rfl)) ?_
                refine VD.y rfl rfl (.inl rfl) (.fa rfl tst72 rfl) ?_
                refine VD.y rfl rfl (.inl rfl) (.ld1 102 rfl tk3 rfl (cellsAt_one rfl rfl)) ?_
                refine VD.nil rfl ?_ rfl
                refine VO.y rfl (.gtr rfl rfl) ?_
                refine VO.k6 0 1 3 38 43 54 ?_
                refine outN ?_
                refine VC.cond rfl (fun hc11 => ?_) (fun hc11 => ?_)
                · -- FFFFFFTT
                  refine VC.rs ?_
                  refine VO.as ?_
                  refine VO.kp [102, 0] [(102, mone g1 (.cells [Value.int .i64 (d0.1), Value.int .i64 (d0.2.1), Value.int .u8 (d0.2.2.1), Value.int .i64 (d0.2.2.2.1), Value.slice p0_A4 (d0.2.2.2.2.1.length) (p0_c4), Value.int .i64 (d0.2.2.2.2.2.1), Value.int .i64 (d0.2.2.2.2.2.2.1), Value.slice (some ⟨gg10, oo10, none⟩) (d0.2.2.2.2.2.2.2.length) (p0_c7)].toArray 72 (0, 0))), (0, wm W)] ?_
                  refine VO.k7 0 1 2 3 38 43 54 ?_
                  refine VC.ret ?_
                  refine outBR ?_
                  refine outR ?_
                  refine outR ?_
                  refine outBR ?_
                  refine outR ?_
                  refine ⟨_, _, res_run (rs := [.tmp 2]) rfl (.tmp rfl .nil), fun W_ hI => out_of (l := []) hI [] rfl rfl (mle_refl _) (fun hS_ => ?_)⟩
                  dsimp only [packV]
                  all_goals (first | rfl | (exact fin0_shipped11_ok))
                · -- FFFFFFTF
                  refine VC.skip ?_
                  refine outBN ?_
                  refine outN ?_
                  refine VC.reg ?_
                  refine VO.mv ?_
                  refine VO.y rfl (.add (c := ((k + 1 : Nat) : Int)) rfl rfl (by omega) ⟨bd, bd⟩) ?_
                  refine VO.as ?_
                  refine VO.kp [102, 0] [(102, mone g1 (.cells [Value.int .i64 (d0.1), Value.int .i64 (d0.2.1), Value.int .u8 (d0.2.2.1), Value.int .i64 (d0.2.2.2.1), Value.slice p0_A4 (d0.2.2.2.2.1.length) (p0_c4), Value.int .i64 (d0.2.2.2.2.2.1), Value.int .i64 (d0.2.2.2.2.2.2.1), Value.slice (some ⟨gg10, oo10, none⟩) (d0.2.2.2.2.2.2.2.length) (p0_c7)].toArray 72 (0, 0))), (0, wm W)] ?_
                  refine VO.k6 0 1 3 38 43 54 ?_
                  exact outN ⟨k + 1, ⟨by omega, by exact all_next ha ‹d0.2.2.2.2.2.2.2[k]? = some _› (by omega)⟩, bd, ⟨⟨rfl, rfl, rfl, rfl, trivial⟩, fun _ h => Inv.sub h [102, 0]⟩⟩
              · -- FFFFFFF
                refine VC.exit ?_
                refine outE ?_
                refine outE ?_
                refine outBB ?_
                refine outN ?_
                refine VC.rs ?_
                refine VO.y rfl (.fa rfl tst72 rfl) ?_
                refine VO.y rfl (.ld1 102 rfl tk3 rfl (cellsAt_one rfl rfl)) ?_
                refine VO.y rfl (.fa rfl tst72 rfl) ?_
                refine VO.y rfl (.ld1 102 rfl tk3 rfl (cellsAt_one rfl rfl)) ?_
                refine VO.y rfl (.sub rfl rfl rfl ⟨bd, bd⟩) ?_
                refine VO.y rfl (.fa rfl tst72 rfl) ?_
                refine VO.y rfl (.ld1 102 rfl tk61 rfl (cellsAt_one rfl rfl)) ?_
                refine VO.callN 112 rfl fnOk54 rfl (fun W hW => c4Follows_ok W d0.2.2.2.2.2.2.1 bdk (d0.2.2.2.2.2.1 - 1) bdk (Rd.mono p0_7 (hW.at (i := 0) rfl))) (fun v12 m12 hv12 => ?_)
                obtain ⟨s12_0, rfl, f12_0⟩ := hv12
                obtain ⟨rfl, q12_0_0, q12_0_1⟩ := open_Fault (x0 := (cFollows d0.2.2.2.2.2.2.1 (d0.2.2.2.2.2.1 - 1) d0.2.2.2.2.2.2.2).1) (x1 := (cFollows d0.2.2.2.2.2.2.1 (d0.2.2.2.2.2.1 - 1) d0.2.2.2.2.2.2.2).2) (f12_0.rd (mle_refl _))
                simp only [inK] at q12_0_0
                simp only [inK] at q12_0_1
                refine VO.y rfl (.bst (cs := [Value.int .i64 (0), Value.int .i64 (0)]) rfl tst57 tz57 rfl) ?_
                refine VO.y rfl (.steql (p := ((cFollows d0.2.2.2.2.2.2.1 (d0.2.2.2.2.2.1 - 1) d0.2.2.2.2.2.2.2).1) = 0 ∧ ((cFollows d0.2.2.2.2.2.2.1 (d0.2.2.2.2.2.1 - 1) d0.2.2.2.2.2.2.2).2) = 0) rfl rfl (teq57 ((cFollows d0.2.2.2.2.2.2.1 (d0.2.2.2.2.2.1 - 1) d0.2.2.2.2.2.2.2).1) ((cFollows d0.2.2.2.2.2.2.1 (d0.2.2.2.2.2.1 - 1) d0.2.2.2.2.2.2.2).2)) (teq57 0 0) (by simp [ceq, ba_toList])) ?_
                refine VO.mv ?_
                refine VO.dec (t := 65) rfl (fun hc13 => ?_) (fun hc13 => ?_)
                · -- FFFFFFFT
                  refine VO.gy rfl ⟨_, rfl, rfl⟩ (.fa rfl tst72 rfl) ?_
                  refine VO.gy rfl ⟨_, rfl, rfl⟩ (.ld1 102 rfl tk69 rfl (cellsAt_one rfl rfl)) ?_
                  refine VO.gy rfl ⟨_, rfl, rfl⟩ (.fa rfl tst72 rfl) ?_
                  refine VO.gy rfl ⟨_, rfl, rfl⟩ (.ld1 102 rfl tk3 rfl (cellsAt_one rfl rfl)) ?_
                  refine VO.gy rfl ⟨_, rfl, rfl⟩ (.fa rfl tst72 rfl) ?_
                  refine VO.gy rfl ⟨_, rfl, rfl⟩ (.ld1 102 rfl tk70 rfl (cellsAt_one rfl rfl)) ?_
                  refine VO.gy rfl ⟨_, rfl, rfl⟩ (.bst (cs := [Value.int .i64 (0), Value.int .i64 (0), Value.int .u8 (d0.2.2.1), Value.int .i64 (d0.2.2.2.1), Value.slice p0_A4 (d0.2.2.2.2.1.length) (p0_c4), Value.int .i64 (0), Value.int .i64 (0), Value.slice none (0) (0)]) rfl tst72 tz72 rfl) ?_
                  refine VO.gcallN 114 rfl ⟨_, rfl, rfl⟩ fnOk145 rfl (fun W hW => plain11_ok W (mk_Message (m := wm W) 0 0 d0.2.2.1 d0.2.2.2.1 d0.2.2.2.2.1 0 0 [] bdk bdk bdk bdk (Rd.mono p0_4 (hW.at (i := 0) rfl)) bdk bdk (Rd.nil _ _ none 0 (Nat.zero_le _)))) (fun v14 m14 hv14 => ?_)
                  try dsimp only at hv14
                  subst hv14
                  refine VO.y rfl (.pT rfl rfl) ?_
                  refine VO.as ?_
                  refine VO.k6 0 1 2 3 38 43 ?_
                  refine VC.ret ?_
                  refine ⟨_, _, res_run (rs := [.tmp 2]) rfl (.tmp rfl .nil), fun W_ hI => out_of (l := []) hI [] rfl rfl (mle_refl _) (fun hS_ => ?_)⟩
                  dsimp only [packV]
                  all_goals (first | rfl | (exact fin0_shipped11_ok))
                · -- FFFFFFFF
                  refine VO.gN ?_
                  refine VO.gN ?_
                  refine VO.gN ?_
                  refine VO.gN ?_
                  refine VO.gN ?_
                  refine VO.gN ?_
                  refine VO.gN ?_
                  refine VO.gN ?_
                  refine VO.y rfl (.pF rfl rfl) ?_
                  refine VO.as ?_
                  refine VO.k6 0 1 2 3 38 43 ?_
                  refine VC.ret ?_
                  refine ⟨_, _, res_run (rs := [.tmp 2]) rfl (.tmp rfl .nil), fun W_ hI => out_of (l := []) hI [] rfl rfl (mle_refl _) (fun hS_ => ?_)⟩
                  dsimp only [packV]
                  all_goals (first | rfl | (exact fin0_shipped11_ok))
theorem fin0_check11_ok {P : Prop} (h : P := by congr 1; first | exact (lCheck_good ⟨by omega, .inl ⟨by omega, Decidable.not_not.1 ‹¬ ¬ helloM d0›⟩⟩).symm | exact (lCheck_good ⟨by omega, .inr (.inl ⟨by omega, Decidable.not_not.1 ‹¬ ¬ shipM d0›⟩)⟩).symm | exact (lCheck_good ⟨by omega, .inr (.inr ⟨by omega, (ack_iff (m := d0) ⟨by omega, by omega⟩).1 (Decidable.not_not.1 ‹¬ ¬ bareM _›)⟩)⟩).symm | exact (lCheck_bad (by rintro ⟨e0, e | e | e⟩ <;> first | omega | exact absurd e.2 (by assumption) | exact absurd ((ack_iff e.2.1).2 e.2) (by assumption) | (unfold ackM at e; omega))).symm) : P := h
theorem check11_ok (W : World) {v0 : List Value} {d0 : DMessage} (h0 : Rd TMessage (wm W) v0 d0) : CallR Try.prog 121 [.agg v0.toArray] W (mnil) (fun v m' => v = .int .i64 (lCheck d0)) := by
  obtain ⟨p0_A4, p0_c4, p0_A7, p0_c7, rfl, p0_0, p0_1, p0_2, p0_3, p0_4, p0_5, p0_6, p0_7⟩ := open_Message (x0 := d0.1) (x1 := d0.2.1) (x2 := d0.2.2.1) (x3 := d0.2.2.2.1) (x4 := d0.2.2.2.2.1) (x5 := d0.2.2.2.2.2.1) (x6 := d0.2.2.2.2.2.2.1) (x7 := d0.2.2.2.2.2.2.2) h0
  simp only [inK] at p0_0
  simp only [inK] at p0_1
  simp only [inK] at p0_2
  simp only [inK] at p0_3
  have p0_r4 := Rd.room p0_4
  simp only [inK] at p0_5
  simp only [inK] at p0_6
  have p0_r7 := Rd.room p0_7
  refine CallR.ofA (n := 50) Try.func121 rfl rfl rfl ?_
  refine VC.rs ?_
  refine VO.box (cs := [Value.int .i64 (d0.1), Value.int .i64 (d0.2.1), Value.int .u8 (d0.2.2.1), Value.int .i64 (d0.2.2.2.1), Value.slice p0_A4 (d0.2.2.2.2.1.length) (p0_c4), Value.int .i64 (d0.2.2.2.2.2.1), Value.int .i64 (d0.2.2.2.2.2.2.1), Value.slice p0_A7 (d0.2.2.2.2.2.2.2.length) (p0_c7)]) 102 rfl rfl rfl (fun g1 => ?_)
  refine VO.as ?_
  refine VO.k3 0 1 2 ?_
  refine VC.rs ?_
  refine VO.as ?_
  refine VO.k4 0 1 2 3 ?_
  refine VC.seq ?_
  refine VC.rs ?_
  refine VO.y rfl (.fa rfl tst72 rfl) ?_
  refine VO.y rfl (.ld1 102 rfl tk3 rfl (cellsAt_one rfl rfl)) ?_
  refine VO.kp [102, 0] [(102, mone g1 (.cells [Value.int .i64 (d0.1), Value.int .i64 (d0.2.1), Value.int .u8 (d0.2.2.1), Value.int .i64 (d0.2.2.2.1), Value.slice p0_A4 (d0.2.2.2.2.1.length) (p0_c4), Value.int .i64 (d0.2.2.2.2.2.1), Value.int .i64 (d0.2.2.2.2.2.2.1), Value.slice p0_A7 (d0.2.2.2.2.2.2.2.length) (p0_c7)].toArray 72 (0, 0))), (0, wm W)] ?_
  refine VO.k5 0 1 2 3 5 ?_
  refine VC.block ?_
  refine VC.rs ?_
  refine VO.y rfl (.eql rfl rfl) ?_
  refine VO.as ?_
  refine VO.k6 0 1 2 3 5 6 ?_
  refine VC.cond rfl (fun hc3 => ?_) (fun hc3 => ?_)
  · -- T
    refine VC.reg ?_
    refine VO.y rfl (.ldA 102 rfl tk72 rfl (cellsAt_one rfl rfl)) ?_
    refine VO.callN 104 rfl fnOk143 rfl (fun W hW => hello11_ok W (Rd.mono h0 (hW.at (i := 0) rfl))) (fun v4 m4 hv4 => ?_)
    subst hv4
    refine VO.as ?_
    refine VO.k6 0 1 2 3 5 6 ?_
    refine outBN ?_
    refine outN ?_
    refine VC.seq ?_
    refine VC.rs ?_
    refine VO.mv ?_
    refine VO.y rfl (.notD rfl) ?_
    refine VO.mv ?_
    refine VO.dec (t := 40) rfl (fun hc5 => ?_) (fun hc5 => ?_)
    · -- TT
      refine VO.gN ?_
      refine VO.gN ?_
      refine VO.gN ?_
      refine VO.y rfl (.pT rfl rfl) ?_
      refine VO.mv ?_
      refine VO.gN ?_
      refine VO.gN ?_
      refine VO.gN ?_
      refine VO.y rfl (.pT rfl rfl) ?_
      refine VO.kp [102, 0] [(102, mone g1 (.cells [Value.int .i64 (d0.1), Value.int .i64 (d0.2.1), Value.int .u8 (d0.2.2.1), Value.int .i64 (d0.2.2.2.1), Value.slice p0_A4 (d0.2.2.2.2.1.length) (p0_c4), Value.int .i64 (d0.2.2.2.2.2.1), Value.int .i64 (d0.2.2.2.2.2.2.1), Value.slice p0_A7 (d0.2.2.2.2.2.2.2.length) (p0_c7)].toArray 72 (0, 0))), (0, wm W)] ?_
      refine VO.k7 0 1 2 3 5 6 49 ?_
      refine VC.condT rfl ?_
      refine VC.rs ?_
      refine VO.as ?_
      refine VO.k7 0 1 2 3 5 6 49 ?_
      refine VC.ret ?_
      refine outR ?_
      refine ⟨_, _, res_run (rs := [.tmp 2]) rfl (.tmp rfl .nil), fun W_ hI => out_of (l := []) hI [] rfl rfl (mle_refl _) (fun hS_ => ?_)⟩
      dsimp only [packV]
      all_goals (first | rfl | (exact fin0_check11_ok))
    · -- TF
      refine VO.gy rfl ⟨_, rfl, rfl⟩ (.fa rfl tst72 rfl) ?_
      refine VO.gy rfl ⟨_, rfl, rfl⟩ (.ld1 102 rfl tk3 rfl (cellsAt_one rfl rfl)) ?_
      refine VO.gy rfl ⟨_, rfl, rfl⟩ (.lss rfl rfl) ?_
      refine VO.y rfl (.pF rfl rfl) ?_
      refine VO.mv ?_
      refine VO.dec (t := 45) rfl (fun hc6 => ?_) (fun hc6 => ?_)
      · -- TFT
        refine VO.gN ?_
        refine VO.gN ?_
        refine VO.gN ?_
        refine VO.y rfl (.pT rfl rfl) ?_
        refine VO.kp [102, 0] [(102, mone g1 (.cells [Value.int .i64 (d0.1), Value.int .i64 (d0.2.1), Value.int .u8 (d0.2.2.1), Value.int .i64 (d0.2.2.2.1), Value.slice p0_A4 (d0.2.2.2.2.1.length) (p0_c4), Value.int .i64 (d0.2.2.2.2.2.1), Value.int .i64 (d0.2.2.2.2.2.2.1), Value.slice p0_A7 (d0.2.2.2.2.2.2.2.length) (p0_c7)].toArray 72 (0, 0))), (0, wm W)] ?_
        refine VO.k7 0 1 2 3 5 6 49 ?_
        refine VC.condT rfl ?_
        refine VC.rs ?_
        refine VO.as ?_
        refine VO.k7 0 1 2 3 5 6 49 ?_
        refine VC.ret ?_
        refine outR ?_
        refine ⟨_, _, res_run (rs := [.tmp 2]) rfl (.tmp rfl .nil), fun W_ hI => out_of (l := []) hI [] rfl rfl (mle_refl _) (fun hS_ => ?_)⟩
        dsimp only [packV]
        all_goals (first | rfl | (exact fin0_check11_ok))
      · -- TFF
        refine VO.gy rfl ⟨_, rfl, rfl⟩ (.fa rfl tst72 rfl) ?_
        refine VO.gy rfl ⟨_, rfl, rfl⟩ (.ld1 102 rfl tk3 rfl (cellsAt_one rfl rfl)) ?_
        refine VO.gy rfl ⟨_, rfl, rfl⟩ (.gtr rfl rfl) ?_
        refine VO.y rfl (.pF rfl rfl) ?_
        refine VO.kp [102, 0] [(102, mone g1 (.cells [Value.int .i64 (d0.1), Value.int .i64 (d0.2.1), Value.int .u8 (d0.2.2.1), Value.int .i64 (d0.2.2.2.1), Value.slice p0_A4 (d0.2.2.2.2.1.length) (p0_c4), Value.int .i64 (d0.2.2.2.2.2.1), Value.int .i64 (d0.2.2.2.2.2.2.1), Value.slice p0_A7 (d0.2.2.2.2.2.2.2.length) (p0_c7)].toArray 72 (0, 0))), (0, wm W)] ?_
        refine VO.k7 0 1 2 3 5 6 49 ?_
        refine VC.cond rfl (fun hc7 => ?_) (fun hc7 => ?_)
        · -- TFFT
          refine VC.rs ?_
          refine VO.as ?_
          refine VO.k7 0 1 2 3 5 6 49 ?_
          refine VC.ret ?_
          refine outR ?_
          refine ⟨_, _, res_run (rs := [.tmp 2]) rfl (.tmp rfl .nil), fun W_ hI => out_of (l := []) hI [] rfl rfl (mle_refl _) (fun hS_ => ?_)⟩
          dsimp only [packV]
          all_goals (first | rfl | (exact fin0_check11_ok))
        · -- TFFF
          refine VC.skip ?_
          refine outN ?_
          refine VC.rs ?_
          refine VO.as ?_
          refine VO.k7 0 1 2 3 5 6 49 ?_
          refine VC.ret ?_
          refine ⟨_, _, res_run (rs := [.tmp 2]) rfl (.tmp rfl .nil), fun W_ hI => out_of (l := []) hI [] rfl rfl (mle_refl _) (fun hS_ => ?_)⟩
          dsimp only [packV]
          all_goals (first | rfl | (exact fin0_check11_ok))
  · -- F
    refine VC.rs ?_
    refine VO.y rfl (.eql rfl rfl) ?_
    refine VO.as ?_
    refine VO.k7 0 1 2 3 5 6 10 ?_
    refine VC.cond rfl (fun hc8 => ?_) (fun hc8 => ?_)
    · -- FT
      refine VC.reg ?_
      refine VO.y rfl (.ldA 102 rfl tk72 rfl (cellsAt_one rfl rfl)) ?_
      refine VO.callN 109 rfl fnOk144 rfl (fun W hW => shipped11_ok W (Rd.mono h0 (hW.at (i := 0) rfl))) (fun v9 m9 hv9 => ?_)
      subst hv9
      refine VO.as ?_
      refine VO.kp [102, 0] [(102, mone g1 (.cells [Value.int .i64 (d0.1), Value.int .i64 (d0.2.1), Value.int .u8 (d0.2.2.1), Value.int .i64 (d0.2.2.2.1), Value.slice p0_A4 (d0.2.2.2.2.1.length) (p0_c4), Value.int .i64 (d0.2.2.2.2.2.1), Value.int .i64 (d0.2.2.2.2.2.2.1), Value.slice p0_A7 (d0.2.2.2.2.2.2.2.length) (p0_c7)].toArray 72 (0, 0))), (0, wm W)] ?_
      refine VO.k7 0 1 2 3 5 6 10 ?_
      refine outBN ?_
      refine outN ?_
      refine VC.seq ?_
      refine VC.rs ?_
      refine VO.mv ?_
      refine VO.y rfl (.notD rfl) ?_
      refine VO.mv ?_
      refine VO.dec (t := 40) rfl (fun hc10 => ?_) (fun hc10 => ?_)
      · -- FTT
        refine VO.gN ?_
        refine VO.gN ?_
        refine VO.gN ?_
        refine VO.y rfl (.pT rfl rfl) ?_
        refine VO.mv ?_
        refine VO.gN ?_
        refine VO.gN ?_
        refine VO.gN ?_
        refine VO.y rfl (.pT rfl rfl) ?_
        refine VO.k8 0 1 2 3 5 6 10 49 ?_
        refine VC.condT rfl ?_
        refine VC.rs ?_
        refine VO.as ?_
        refine VO.k8 0 1 2 3 5 6 10 49 ?_
        refine VC.ret ?_
        refine outR ?_
        refine ⟨_, _, res_run (rs := [.tmp 2]) rfl (.tmp rfl .nil), fun W_ hI => out_of (l := []) hI [] rfl rfl (mle_refl _) (fun hS_ => ?_)⟩
        dsimp only [packV]
        all_goals (first | rfl | (exact fin0_check11_ok))
      · -- FTF
        refine VO.gy rfl ⟨_, rfl, rfl⟩ (.fa rfl tst72 rfl) ?_
        refine VO.gy rfl ⟨_, rfl, rfl⟩ (.ld1 102 rfl tk3 rfl (cellsAt_one rfl rfl)) ?_
        refine VO.gy rfl ⟨_, rfl, rfl⟩ (.lss rfl rfl) ?_
        refine VO.y rfl (.pF rfl rfl) ?_
        refine VO.mv ?_
        refine VO.dec (t := 45) rfl (fun hc11 => ?_) (fun hc11 => ?_)
        · -- FTFT
          refine VO.gN ?_
          refine VO.gN ?_
          refine VO.gN ?_
          refine VO.y rfl (.pT rfl rfl) ?_
          refine VO.k8 0 1 2 3 5 6 10 49 ?_
          refine VC.condT rfl ?_
          refine VC.rs ?_
          refine VO.as ?_
          refine VO.k8 0 1 2 3 5 6 10 49 ?_
          refine VC.ret ?_
          refine outR ?_
          refine ⟨_, _, res_run (rs := [.tmp 2]) rfl (.tmp rfl .nil), fun W_ hI => out_of (l := []) hI [] rfl rfl (mle_refl _) (fun hS_ => ?_)⟩
          dsimp only [packV]
          all_goals (first | rfl | (exact fin0_check11_ok))
        · -- FTFF
          refine VO.gy rfl ⟨_, rfl, rfl⟩ (.fa rfl tst72 rfl) ?_
          refine VO.gy rfl ⟨_, rfl, rfl⟩ (.ld1 102 rfl tk3 rfl (cellsAt_one rfl rfl)) ?_
          refine VO.gy rfl ⟨_, rfl, rfl⟩ (.gtr rfl rfl) ?_
          refine VO.y rfl (.pF rfl rfl) ?_
          refine VO.k8 0 1 2 3 5 6 10 49 ?_
          refine VC.cond rfl (fun hc12 => ?_) (fun hc12 => ?_)
          · -- FTFFT
            refine VC.rs ?_
            refine VO.as ?_
            refine VO.k8 0 1 2 3 5 6 10 49 ?_
            refine VC.ret ?_
            refine outR ?_
            refine ⟨_, _, res_run (rs := [.tmp 2]) rfl (.tmp rfl .nil), fun W_ hI => out_of (l := []) hI [] rfl rfl (mle_refl _) (fun hS_ => ?_)⟩
            dsimp only [packV]
            all_goals (first | rfl | (exact fin0_check11_ok))
          · -- FTFFF
            refine VC.skip ?_
            refine outN ?_
            refine VC.rs ?_
            refine VO.as ?_
            refine VO.k8 0 1 2 3 5 6 10 49 ?_
            refine VC.ret ?_
            refine ⟨_, _, res_run (rs := [.tmp 2]) rfl (.tmp rfl .nil), fun W_ hI => out_of (l := []) hI [] rfl rfl (mle_refl _) (fun hS_ => ?_)⟩
            dsimp only [packV]
            all_goals (first | rfl | (exact fin0_check11_ok))
    · -- FF
      refine VC.rs ?_
      refine VO.y rfl (.eql rfl rfl) ?_
      refine VO.as ?_
      refine VO.kp [102, 0] [(102, mone g1 (.cells [Value.int .i64 (d0.1), Value.int .i64 (d0.2.1), Value.int .u8 (d0.2.2.1), Value.int .i64 (d0.2.2.2.1), Value.slice p0_A4 (d0.2.2.2.2.1.length) (p0_c4), Value.int .i64 (d0.2.2.2.2.2.1), Value.int .i64 (d0.2.2.2.2.2.2.1), Value.slice p0_A7 (d0.2.2.2.2.2.2.2.length) (p0_c7)].toArray 72 (0, 0))), (0, wm W)] ?_
      refine VO.k8 0 1 2 3 5 6 10 14 ?_
      refine VC.cond rfl (fun hc13 => ?_) (fun hc13 => ?_)
      · -- FFT
        refine VC.reg ?_
        refine VO.y rfl (.fa rfl tst72 rfl) ?_
        refine VO.y rfl (.ld1 102 rfl tk3 rfl (cellsAt_one rfl rfl)) ?_
        refine VO.y rfl (.geq rfl rfl) ?_
        refine VO.mv ?_
        refine VO.dec (t := 19) rfl (fun hc14 => ?_) (fun hc14 => ?_)
        · -- FFTT
          refine VO.gy rfl ⟨_, rfl, rfl⟩ (.fa rfl tst72 rfl) ?_
          refine VO.gy rfl ⟨_, rfl, rfl⟩ (.ld1 102 rfl tk3 rfl (cellsAt_one rfl rfl)) ?_
          refine VO.gy rfl ⟨_, rfl, rfl⟩ (.leq rfl rfl) ?_
          refine VO.y rfl (.pT rfl rfl) ?_
          refine VO.mv ?_
          refine VO.dec (t := 24) rfl (fun hc15 => ?_) (fun hc15 => ?_)
          · -- FFTTT
            refine VO.gy rfl ⟨_, rfl, rfl⟩ (.fa rfl tst72 rfl) ?_
            refine VO.gy rfl ⟨_, rfl, rfl⟩ (.ld1 102 rfl tk69 rfl (cellsAt_one rfl rfl)) ?_
            refine VO.gy rfl ⟨_, rfl, rfl⟩ (.fa rfl tst72 rfl) ?_
            refine VO.gy rfl ⟨_, rfl, rfl⟩ (.ld1 102 rfl tk70 rfl (cellsAt_one rfl rfl)) ?_
            refine VO.gy rfl ⟨_, rfl, rfl⟩ (.fa rfl tst72 rfl) ?_
            refine VO.gy rfl ⟨_, rfl, rfl⟩ (.ld1 102 rfl tk3 rfl (cellsAt_one rfl rfl)) ?_
            refine VO.gy rfl ⟨_, rfl, rfl⟩ (.fa rfl tst72 rfl) ?_
            refine VO.gy rfl ⟨_, rfl, rfl⟩ (.ld1 102 rfl tk3 rfl (cellsAt_one rfl rfl)) ?_
            refine VO.gy rfl ⟨_, rfl, rfl⟩ (.fa rfl tst72 rfl) ?_
            refine VO.gy rfl ⟨_, rfl, rfl⟩ (.ld1 102 rfl tk61 rfl (cellsAt_one rfl rfl)) ?_
            refine VO.gy rfl ⟨_, rfl, rfl⟩ (.bst (cs := [Value.int .i64 (0), Value.int .i64 (0), Value.int .u8 (d0.2.2.1), Value.int .i64 (0), Value.slice p0_A4 (d0.2.2.2.2.1.length) (p0_c4), Value.int .i64 (d0.2.2.2.2.2.1), Value.int .i64 (d0.2.2.2.2.2.2.1), Value.slice p0_A7 (d0.2.2.2.2.2.2.2.length) (p0_c7)]) rfl tst72 tz72 rfl) ?_
            refine VO.gcallN 116 rfl ⟨_, rfl, rfl⟩ fnOk145 rfl (fun W hW => plain11_ok W (mk_Message (m := wm W) 0 0 d0.2.2.1 0 d0.2.2.2.2.1 d0.2.2.2.2.2.1 d0.2.2.2.2.2.2.1 d0.2.2.2.2.2.2.2 bdk bdk bdk bdk (Rd.mono p0_4 (hW.at (i := 0) rfl)) bdk bdk (Rd.mono p0_7 (hW.at (i := 0) rfl)))) (fun v16 m16 hv16 => ?_)
            try dsimp only at hv16
            subst hv16
            refine VO.y rfl (.pT rfl rfl) ?_
            refine VO.as ?_
            refine VO.k8 0 1 2 3 5 6 10 14 ?_
            refine outBN ?_
            refine outN ?_
            refine VC.seq ?_
            refine VC.rs ?_
            refine VO.mv ?_
            refine VO.y rfl (.notD rfl) ?_
            refine VO.mv ?_
            refine VO.dec (t := 40) rfl (fun hc17 => ?_) (fun hc17 => ?_)
            · -- FFTTTT
              refine VO.gN ?_
              refine VO.gN ?_
              refine VO.gN ?_
              refine VO.y rfl (.pT rfl rfl) ?_
              refine VO.mv ?_
              refine VO.gN ?_
              refine VO.gN ?_
              refine VO.gN ?_
              refine VO.y rfl (.pT rfl rfl) ?_
              refine VO.k9 0 1 2 3 5 6 10 14 49 ?_
              refine VC.condT rfl ?_
              refine VC.rs ?_
              refine VO.as ?_
              refine VO.kp [102, 0] [(102, mone g1 (.cells [Value.int .i64 (d0.1), Value.int .i64 (d0.2.1), Value.int .u8 (d0.2.2.1), Value.int .i64 (d0.2.2.2.1), Value.slice p0_A4 (d0.2.2.2.2.1.length) (p0_c4), Value.int .i64 (d0.2.2.2.2.2.1), Value.int .i64 (d0.2.2.2.2.2.2.1), Value.slice p0_A7 (d0.2.2.2.2.2.2.2.length) (p0_c7)].toArray 72 (0, 0))), (0, wm W)] ?_
              refine VO.k9 0 1 2 3 5 6 10 14 49 ?_
              refine VC.ret ?_
              refine outR ?_
              refine ⟨_, _, res_run (rs := [.tmp 2]) rfl (.tmp rfl .nil), fun W_ hI => out_of (l := []) hI [] rfl rfl (mle_refl _) (fun hS_ => ?_)⟩
              dsimp only [packV]
              all_goals (first | rfl | (exact fin0_check11_ok))
            · -- FFTTTF
              refine VO.gy rfl ⟨_, rfl, rfl⟩ (.fa rfl tst72 rfl) ?_
              refine VO.gy rfl ⟨_, rfl, rfl⟩ (.ld1 102 rfl tk3 rfl (cellsAt_one rfl rfl)) ?_
              refine VO.gy rfl ⟨_, rfl, rfl⟩ (.lss rfl rfl) ?_
              refine VO.y rfl (.pF rfl rfl) ?_
              refine VO.mv ?_
              refine VO.dec (t := 45) rfl (fun hc18 => ?_) (fun hc18 => ?_)
              · -- FFTTTFT
                refine VO.gN ?_
                refine VO.gN ?_
                refine VO.gN ?_
                refine VO.y rfl (.pT rfl rfl) ?_
                refine VO.k9 0 1 2 3 5 6 10 14 49 ?_
                refine VC.condT rfl ?_
                refine VC.rs ?_
                refine VO.as ?_
                refine VO.kp [102, 0] [(102, mone g1 (.cells [Value.int .i64 (d0.1), Value.int .i64 (d0.2.1), Value.int .u8 (d0.2.2.1), Value.int .i64 (d0.2.2.2.1), Value.slice p0_A4 (d0.2.2.2.2.1.length) (p0_c4), Value.int .i64 (d0.2.2.2.2.2.1), Value.int .i64 (d0.2.2.2.2.2.2.1), Value.slice p0_A7 (d0.2.2.2.2.2.2.2.length) (p0_c7)].toArray 72 (0, 0))), (0, wm W)] ?_
                refine VO.k9 0 1 2 3 5 6 10 14 49 ?_
                refine VC.ret ?_
                refine outR ?_
                refine ⟨_, _, res_run (rs := [.tmp 2]) rfl (.tmp rfl .nil), fun W_ hI => out_of (l := []) hI [] rfl rfl (mle_refl _) (fun hS_ => ?_)⟩
                dsimp only [packV]
                all_goals (first | rfl | (exact fin0_check11_ok))
              · -- FFTTTFF
                refine VO.gy rfl ⟨_, rfl, rfl⟩ (.fa rfl tst72 rfl) ?_
                refine VO.gy rfl ⟨_, rfl, rfl⟩ (.ld1 102 rfl tk3 rfl (cellsAt_one rfl rfl)) ?_
                refine VO.gy rfl ⟨_, rfl, rfl⟩ (.gtr rfl rfl) ?_
                refine VO.y rfl (.pF rfl rfl) ?_
                refine VO.k9 0 1 2 3 5 6 10 14 49 ?_
                refine VC.cond rfl (fun hc19 => ?_) (fun hc19 => ?_)
                · -- FFTTTFFT
                  refine VC.rs ?_
                  refine VO.as ?_
                  refine VO.kp [102, 0] [(102, mone g1 (.cells [Value.int .i64 (d0.1), Value.int .i64 (d0.2.1), Value.int .u8 (d0.2.2.1), Value.int .i64 (d0.2.2.2.1), Value.slice p0_A4 (d0.2.2.2.2.1.length) (p0_c4), Value.int .i64 (d0.2.2.2.2.2.1), Value.int .i64 (d0.2.2.2.2.2.2.1), Value.slice p0_A7 (d0.2.2.2.2.2.2.2.length) (p0_c7)].toArray 72 (0, 0))), (0, wm W)] ?_
                  refine VO.k9 0 1 2 3 5 6 10 14 49 ?_
                  refine VC.ret ?_
                  refine outR ?_
                  refine ⟨_, _, res_run (rs := [.tmp 2]) rfl (.tmp rfl .nil), fun W_ hI => out_of (l := []) hI [] rfl rfl (mle_refl _) (fun hS_ => ?_)⟩
                  dsimp only [packV]
                  all_goals (first | rfl | (exact fin0_check11_ok))
                · -- FFTTTFFF
                  refine VC.skip ?_
                  refine outN ?_
                  refine VC.rs ?_
                  refine VO.as ?_
                  refine VO.kp [102, 0] [(102, mone g1 (.cells [Value.int .i64 (d0.1), Value.int .i64 (d0.2.1), Value.int .u8 (d0.2.2.1), Value.int .i64 (d0.2.2.2.1), Value.slice p0_A4 (d0.2.2.2.2.1.length) (p0_c4), Value.int .i64 (d0.2.2.2.2.2.1), Value.int .i64 (d0.2.2.2.2.2.2.1), Value.slice p0_A7 (d0.2.2.2.2.2.2.2.length) (p0_c7)].toArray 72 (0, 0))), (0, wm W)] ?_
                  refine VO.k9 0 1 2 3 5 6 10 14 49 ?_
                  refine VC.ret ?_
                  refine ⟨_, _, res_run (rs := [.tmp 2]) rfl (.tmp rfl .nil), fun W_ hI => out_of (l := []) hI [] rfl rfl (mle_refl _) (fun hS_ => ?_)⟩
                  dsimp only [packV]
                  all_goals (first | rfl | (exact fin0_check11_ok))
          · -- FFTTF
            refine VO.gN ?_
            refine VO.gN ?_
            refine VO.gN ?_
            refine VO.gN ?_
            refine VO.gN ?_
            refine VO.gN ?_
            refine VO.gN ?_
            refine VO.gN ?_
            refine VO.gN ?_
            refine VO.gN ?_
            refine VO.gN ?_
            refine VO.gN ?_
            refine VO.y rfl (.pF rfl rfl) ?_
            refine VO.as ?_
            refine VO.k8 0 1 2 3 5 6 10 14 ?_
            refine outBN ?_
            refine outN ?_
            refine VC.seq ?_
            refine VC.rs ?_
            refine VO.mv ?_
            refine VO.y rfl (.not rfl) ?_
            refine VO.mv ?_
            refine VO.gN ?_
            refine VO.gN ?_
            refine VO.gN ?_
            refine VO.y rfl (.pT rfl rfl) ?_
            refine VO.mv ?_
            refine VO.gN ?_
            refine VO.gN ?_
            refine VO.gN ?_
            refine VO.y rfl (.pT rfl rfl) ?_
            refine VO.k9 0 1 2 3 5 6 10 14 49 ?_
            refine VC.condT rfl ?_
            refine VC.rs ?_
            refine VO.as ?_
            refine VO.kp [102, 0] [(102, mone g1 (.cells [Value.int .i64 (d0.1), Value.int .i64 (d0.2.1), Value.int .u8 (d0.2.2.1), Value.int .i64 (d0.2.2.2.1), Value.slice p0_A4 (d0.2.2.2.2.1.length) (p0_c4), Value.int .i64 (d0.2.2.2.2.2.1), Value.int .i64 (d0.2.2.2.2.2.2.1), Value.slice p0_A7 (d0.2.2.2.2.2.2.2.length) (p0_c7)].toArray 72 (0, 0))), (0, wm W)] ?_
            refine VO.k9 0 1 2 3 5 6 10 14 49 ?_
            refine VC.ret ?_
            refine outR ?_
            refine ⟨_, _, res_run (rs := [.tmp 2]) rfl (.tmp rfl .nil), fun W_ hI => out_of (l := []) hI [] rfl rfl (mle_refl _) (fun hS_ => ?_)⟩
            dsimp only [packV]
            all_goals (first | rfl | (exact fin0_check11_ok))
        · -- FFTF
          refine VO.gN ?_
          refine VO.gN ?_
          refine VO.gN ?_
          refine VO.y rfl (.pF rfl rfl) ?_
          refine VO.mv ?_
          refine VO.gN ?_
          refine VO.gN ?_
          refine VO.gN ?_
          refine VO.gN ?_
          refine VO.gN ?_
          refine VO.gN ?_
          refine VO.gN ?_
          refine VO.gN ?_
          refine VO.gN ?_
          refine VO.gN ?_
          refine VO.gN ?_
          refine VO.gN ?_
          refine VO.y rfl (.pF rfl rfl) ?_
          refine VO.as ?_
          refine VO.k8 0 1 2 3 5 6 10 14 ?_
          refine outBN ?_
          refine outN ?_
          refine VC.seq ?_
          refine VC.rs ?_
          refine VO.mv ?_
          refine VO.y rfl (.not rfl) ?_
          refine VO.mv ?_
          refine VO.gN ?_
          refine VO.gN ?_
          refine VO.gN ?_
          refine VO.y rfl (.pT rfl rfl) ?_
          refine VO.mv ?_
          refine VO.gN ?_
          refine VO.gN ?_
          refine VO.gN ?_
          refine VO.y rfl (.pT rfl rfl) ?_
          refine VO.k9 0 1 2 3 5 6 10 14 49 ?_
          refine VC.condT rfl ?_
          refine VC.rs ?_
          refine VO.as ?_
          refine VO.kp [102, 0] [(102, mone g1 (.cells [Value.int .i64 (d0.1), Value.int .i64 (d0.2.1), Value.int .u8 (d0.2.2.1), Value.int .i64 (d0.2.2.2.1), Value.slice p0_A4 (d0.2.2.2.2.1.length) (p0_c4), Value.int .i64 (d0.2.2.2.2.2.1), Value.int .i64 (d0.2.2.2.2.2.2.1), Value.slice p0_A7 (d0.2.2.2.2.2.2.2.length) (p0_c7)].toArray 72 (0, 0))), (0, wm W)] ?_
          refine VO.k9 0 1 2 3 5 6 10 14 49 ?_
          refine VC.ret ?_
          refine outR ?_
          refine ⟨_, _, res_run (rs := [.tmp 2]) rfl (.tmp rfl .nil), fun W_ hI => out_of (l := []) hI [] rfl rfl (mle_refl _) (fun hS_ => ?_)⟩
          dsimp only [packV]
          all_goals (first | rfl | (exact fin0_check11_ok))
      · -- FFF
        refine VC.skip ?_
        refine outBN ?_
        refine outN ?_
        refine VC.seq ?_
        refine VC.rs ?_
        refine VO.mv ?_
        refine VO.y rfl (.not rfl) ?_
        refine VO.mv ?_
        refine VO.gN ?_
        refine VO.gN ?_
        refine VO.gN ?_
        refine VO.y rfl (.pT rfl rfl) ?_
        refine VO.mv ?_
        refine VO.gN ?_
        refine VO.gN ?_
        refine VO.gN ?_
        refine VO.y rfl (.pT rfl rfl) ?_
        refine VO.k9 0 1 2 3 5 6 10 14 49 ?_
        refine VC.condT rfl ?_
        refine VC.rs ?_
        refine VO.as ?_
        refine VO.k9 0 1 2 3 5 6 10 14 49 ?_
        refine VC.ret ?_
        refine outR ?_
        refine ⟨_, _, res_run (rs := [.tmp 2]) rfl (.tmp rfl .nil), fun W_ hI => out_of (l := []) hI [] rfl rfl (mle_refl _) (fun hS_ => ?_)⟩
        dsimp only [packV]
        all_goals (first | rfl | (exact fin0_check11_ok))
end
section
set_option linter.unusedVariables false
set_option linter.unusedSimpArgs false
set_option maxRecDepth 4000
theorem fin0_fits18_ok {P : Prop} (h : P := by first | exact congrArg Value.bool (decide_eq_false (fun e => by have e2 := e.2 _ (List.mem_of_getElem? ‹d1.2.2.2.2.2.2.2[k]? = some _›) (by omega); rw [epochAt_of ‹d0[_]? = some _›] at e2; omega)).symm | exact congrArg Value.bool (decide_eq_false (fun e => by have e2 := e.1 (by omega); rw [epochAt_of ‹d0[_]? = some _›] at e2; omega)).symm | exfalso; omega | exact congrArg Value.bool (decide_eq_true (⟨fun h => by first | omega | (rw [epochAt_of ‹d0[_]? = some _›]; omega), by have ha2 := ha; rw [List.take_of_length_le (by omega)] at ha2; exact ha2⟩ : fitsM d0 d1)).symm) : P := h
theorem fin1_fits18_ok {P : Prop} (h : P := by first | omega | (simp only [List.length_append, List.length_nil, List.length_cons, List.length_take, List.length_drop] at *; omega) | (have := e1 _ (List.mem_of_getElem? ‹d1.2.2.2.2.2.2.2[k]? = some _›); omega)) : P := h
theorem fits18_ok (W : World) {v0 : Value} {d0 : List DCommit} (h0 : Rd (.sl TCommit) (wm W) [v0] d0) {v1 : List Value} {d1 : DMessage} (h1 : Rd TMessage (wm W) v1 d1) (e0 : d1.2.2.2.2.2.1 - 1 ≤ (d0.length : Int)) (e1 : ∀ c ∈ d1.2.2.2.2.2.2.2, 1 ≤ c.2.1) (e2 : 1 ≤ d1.2.2.2.2.2.1 ∧ (d1.2.2.2.2.2.2.1 = 0 ↔ d1.2.2.2.2.2.1 = 1)) : CallR Try.prog 122 [v0, .agg v1.toArray] W (mnil) (fun v m' => v = .bool (decide (fitsM d0 d1))) := by
  obtain ⟨A0, c0, rfl, l0, k0⟩ := h0.slice
  simp only [maxLen] at k0
  obtain ⟨p1_A4, p1_c4, p1_A7, p1_c7, rfl, p1_0, p1_1, p1_2, p1_3, p1_4, p1_5, p1_6, p1_7⟩ := open_Message (x0 := d1.1) (x1 := d1.2.1) (x2 := d1.2.2.1) (x3 := d1.2.2.2.1) (x4 := d1.2.2.2.2.1) (x5 := d1.2.2.2.2.2.1) (x6 := d1.2.2.2.2.2.2.1) (x7 := d1.2.2.2.2.2.2.2) h1
  simp only [inK] at p1_0
  simp only [inK] at p1_1
  simp only [inK] at p1_2
  simp only [inK] at p1_3
  have p1_r4 := Rd.room p1_4
  simp only [inK] at p1_5
  simp only [inK] at p1_6
  have p1_r7 := Rd.room p1_7
  refine CallR.ofA (n := 54) Try.func122 rfl rfl rfl ?_
  refine VC.rs ?_
  refine VO.box (cs := [Value.int .i64 (d1.1), Value.int .i64 (d1.2.1), Value.int .u8 (d1.2.2.1), Value.int .i64 (d1.2.2.2.1), Value.slice p1_A4 (d1.2.2.2.2.1.length) (p1_c4), Value.int .i64 (d1.2.2.2.2.2.1), Value.int .i64 (d1.2.2.2.2.2.2.1), Value.slice p1_A7 (d1.2.2.2.2.2.2.2.length) (p1_c7)]) 102 rfl rfl rfl (fun g1 => ?_)
  refine VO.as ?_
  refine VO.k4 0 1 3 4 ?_
  refine VC.rs ?_
  refine VO.as ?_
  refine VO.k5 0 1 3 4 5 ?_
  refine VC.seq ?_
  refine VC.rs ?_
  refine VO.y rfl (.fa rfl tst72 rfl) ?_
  refine VO.y rfl (.ld1 102 rfl tk3 rfl (cellsAt_one rfl rfl)) ?_
  refine VO.y rfl (.gtr rfl rfl) ?_
  refine VO.kp [102, 0] [(102, mone g1 (.cells [Value.int .i64 (d1.1), Value.int .i64 (d1.2.1), Value.int .u8 (d1.2.2.1), Value.int .i64 (d1.2.2.2.1), Value.slice p1_A4 (d1.2.2.2.2.1.length) (p1_c4), Value.int .i64 (d1.2.2.2.2.2.1), Value.int .i64 (d1.2.2.2.2.2.2.1), Value.slice p1_A7 (d1.2.2.2.2.2.2.2.length) (p1_c7)].toArray 72 (0, 0))), (0, wm W)] ?_
  refine VO.k6 0 1 3 4 5 10 ?_
  refine VC.cond rfl (fun hc3 => ?_) (fun hc3 => ?_)
  · -- T
    refine VC.reg ?_
    refine VO.mv ?_
    refine VO.y rfl (.fa rfl tst72 rfl) ?_
    refine VO.y rfl (.ld1 102 rfl tk3 rfl (cellsAt_one rfl rfl)) ?_
    refine VO.y rfl (.sub rfl rfl rfl ⟨by exact fin1_fits18_ok, by exact fin1_fits18_ok⟩) ?_
    obtain ⟨x4, hx4⟩ : ∃ z_, (d0)[(d1.2.2.2.2.2.1 - 2).toNat]? = some z_ := ⟨_, List.getElem?_eq_getElem (by exact fin1_fits18_ok)⟩
    obtain ⟨gg4, oo4, ec4, ea4, hce4, hre4⟩ := h0.elem hx4
    cases ea4
    obtain ⟨q4_A2, q4_c2, rfl, q4_0, q4_1, q4_2⟩ := open_Commit (x0 := x4.1) (x1 := x4.2.1) (x2 := x4.2.2) hre4
    simp only [inK] at q4_0
    simp only [inK] at q4_1
    have q4_r2 := Rd.room q4_2
    refine VO.y rfl (.ixI ((d1.2.2.2.2.2.1 - 2).toNat) rfl rfl tsl61 (by exact fin1_fits18_ok) (by exact fin1_fits18_ok)) ?_
    refine VO.y rfl (.fa rfl tst52 rfl) ?_
    refine VO.y rfl (.ld1 0 rfl tk3 rfl (hce4.at1 (j := 0) rfl)) ?_
    refine VO.as ?_
    refine VO.k6 0 1 3 4 5 10 ?_
    refine outN ?_
    refine VC.seq ?_
    refine VC.rs ?_
    refine VO.mv ?_
    refine VO.y rfl (.fa rfl tst72 rfl) ?_
    refine VO.y rfl (.ld1 102 rfl tk3 rfl (cellsAt_one rfl rfl)) ?_
    refine VO.y rfl (.neq rfl rfl) ?_
    refine VO.k7 0 1 3 4 5 10 21 ?_
    refine VC.cond rfl (fun hc5 => ?_) (fun hc5 => ?_)
    · -- TT
      refine VC.rs ?_
      refine VO.as ?_
      refine VO.kp [102, 0] [(102, mone g1 (.cells [Value.int .i64 (d1.1), Value.int .i64 (d1.2.1), Value.int .u8 (d1.2.2.1), Value.int .i64 (d1.2.2.2.1), Value.slice p1_A4 (d1.2.2.2.2.1.length) (p1_c4), Value.int .i64 (d1.2.2.2.2.2.1), Value.int .i64 (d1.2.2.2.2.2.2.1), Value.slice p1_A7 (d1.2.2.2.2.2.2.2.length) (p1_c7)].toArray 72 (0, 0))), (0, wm W)] ?_
      refine VO.k7 0 1 3 4 5 10 21 ?_
      refine VC.ret ?_
      refine outR ?_
      refine ⟨_, _, res_run (rs := [.tmp 4]) rfl (.tmp rfl .nil), fun W_ hI => out_of (l := []) hI [] rfl rfl (mle_refl _) (fun hS_ => ?_)⟩
      dsimp only [packV]
      all_goals (first | rfl | (exact fin0_fits18_ok))
    · -- TF
      refine VC.skip ?_
      refine outN ?_
      refine VC.seq ?_
      refine VC.rs ?_
      refine VO.as ?_
      refine VO.kp [102, 0] [(102, mone g1 (.cells [Value.int .i64 (d1.1), Value.int .i64 (d1.2.1), Value.int .u8 (d1.2.2.1), Value.int .i64 (d1.2.2.2.1), Value.slice p1_A4 (d1.2.2.2.2.1.length) (p1_c4), Value.int .i64 (d1.2.2.2.2.2.1), Value.int .i64 (d1.2.2.2.2.2.2.1), Value.slice p1_A7 (d1.2.2.2.2.2.2.2.length) (p1_c7)].toArray 72 (0, 0))), (0, wm W)] ?_
      refine VO.k8 0 1 3 4 5 6 10 21 ?_
      refine VC.block ?_
      refine VC.loop (G := Nat) (fun k => [(6, Value.int .i64 (((k : Nat) : Int))), (0, Value.slice (some ⟨gg4, oo4, none⟩) (d0.length) (c0)), (1, Value.agg [Value.int .i64 (d1.1), Value.int .i64 (d1.2.1), Value.int .u8 (d1.2.2.1), Value.int .i64 (d1.2.2.2.1), Value.slice p1_A4 (d1.2.2.2.2.1.length) (p1_c4), Value.int .i64 (d1.2.2.2.2.2.1), Value.int .i64 (d1.2.2.2.2.2.2.1), Value.slice p1_A7 (d1.2.2.2.2.2.2.2.length) (p1_c7)].toArray), (3, Value.pointer (some ⟨g1, 0, none⟩)), (5, Value.int .i64 (x4.1)), (10, Value.bool (decide (1 < d1.2.2.2.2.2.1))), (21, Value.bool (decide (¬ x4.1 = d1.2.2.2.2.2.2.1)))]) (fun k => [(102, mone g1 (.cells [Value.int .i64 (d1.1), Value.int .i64 (d1.2.1), Value.int .u8 (d1.2.2.1), Value.int .i64 (d1.2.2.2.1), Value.slice p1_A4 (d1.2.2.2.2.1.length) (p1_c4), Value.int .i64 (d1.2.2.2.2.2.1), Value.int .i64 (d1.2.2.2.2.2.2.1), Value.slice p1_A7 (d1.2.2.2.2.2.2.2.length) (p1_c7)].toArray 72 (0, 0))), (0, wm W)]) (fun k => (k ≤ d1.2.2.2.2.2.2.2.length) ∧ (∀ c ∈ d1.2.2.2.2.2.2.2.take k, c.2.1 ≤ d0.length → epochAt d0 (c.2.1 - 1) = c.1)) (fun k => d1.2.2.2.2.2.2.2.length - k) 0 (⟨by omega, by simp⟩) ⟨⟨rfl, rfl, rfl, rfl, rfl, rfl, rfl, trivial⟩, fun _ h => h.sub [102, 0]⟩ ?_
      rintro k ⟨hk, ha⟩
      refine VC.seq ?_
      refine VC.rs ?_
      refine VO.mv ?_
      refine VO.y rfl (.fa rfl tst72 rfl) ?_
      refine VO.y rfl (.ld1 102 rfl tk61 rfl (cellsAt_one rfl rfl)) ?_
      refine VO.y rfl (.lenS rfl tsl61) ?_
      refine VO.y rfl (.lss rfl rfl) ?_
      refine VO.k8 0 1 3 5 6 10 21 26 ?_
      refine VC.cond rfl (fun hc6 => ?_) (fun hc6 => ?_)
      · -- TFT
        refine VC.skip ?_
        refine outN ?_
        refine VC.seq ?_
        refine VC.block ?_
        refine VC.rs ?_
        refine VO.y rfl (.fa rfl tst72 rfl) ?_
        refine VO.y rfl (.ld1 102 rfl tk61 rfl (cellsAt_one rfl rfl)) ?_
        refine VO.mv ?_
        obtain ⟨x7, hx7⟩ : ∃ z_, (d1.2.2.2.2.2.2.2)[k]? = some z_ := ⟨_, List.getElem?_eq_getElem (by exact fin1_fits18_ok)⟩
        obtain ⟨gg7, oo7, ec7, ea7, hce7, hre7⟩ := p1_7.elem hx7
        cases ea7
        obtain ⟨q7_A2, q7_c2, rfl, q7_0, q7_1, q7_2⟩ := open_Commit (x0 := x7.1) (x1 := x7.2.1) (x2 := x7.2.2) hre7
        simp only [inK] at q7_0
        simp only [inK] at q7_1
        have q7_r2 := Rd.room q7_2
        refine VO.y rfl (.ixI k rfl rfl tsl61 rfl (by exact fin1_fits18_ok)) ?_
        refine VO.y rfl (.fa rfl tst52 rfl) ?_
        refine VO.y rfl (.ld1 0 rfl tk3 rfl (hce7.at1 (j := 1) rfl)) ?_
        refine VO.as ?_
        refine VO.k9 0 1 3 5 6 7 10 21 26 ?_
        refine VC.seq ?_
        refine VC.regD _ 17 [(0, true), (1, true), (2, true), (3, true), (4, true), (5, true), (6, true), (7, true), (8, true), (9, true), (10, true), (11, true), (12, true), (13, true), (14, true), (15, true), (16, true)] follows (by kernel_rfl) (fun _ h => h.sub [102, 0]) ?_
        refine VD.y rfl rfl (.inl rfl) (.mv rfl) ?_
        refine VD.y rfl rfl (.inl rfl) (.mv rfl) ?_
        refine VD.y rfl rfl (.inl rfl) (.lenS rfl tsl61) ?_
        refine VD.y rfl rfl (.inl rfl) (.leq rfl rfl) ?_
        refine VD.y rfl rfl (.inl rfl) (.mv rfl) ?_
        refine VD.dec (s := 39) rfl (fun hc8 => ?_) (fun hc8 => ?_)
        · -- TFTT
          refine VD.y rfl rfl (.inr ⟨_, _, rfl, _, rfl, rfl⟩) (.mv rfl) ?_
          refine VD.y rfl rfl (.inr ⟨_, _, rfl, _, rfl, rfl⟩) (.mv rfl) ?_
          refine VD.y rfl rfl (.inr ⟨_, _, rfl, _, rfl, rfl⟩) (.sub rfl rfl rfl ⟨by exact fin1_fits18_ok, by exact fin1_fits18_ok⟩) ?_
          obtain ⟨x9, hx9⟩ : ∃ z_, (d0)[(x7.2.1 - 1).toNat]? = some z_ := ⟨_, List.getElem?_eq_getElem (by exact fin1_fits18_ok)⟩
          obtain ⟨gg9, oo9, ec9, ea9, hce9, hre9⟩ := h0.elem hx9
          cases ea9
          obtain ⟨q9_A2, q9_c2, rfl, q9_0, q9_1, q9_2⟩ := open_Commit (x0 := x9.1) (x1 := x9.2.1) (x2 := x9.2.2) hre9
          simp only [inK] at q9_0
          simp only [inK] at q9_1
          have q9_r2 := Rd.room q9_2
          refine VD.y rfl rfl (.inr ⟨_, _, rfl, _, rfl, rfl⟩) (.ixI ((x7.2.1 - 1).toNat) rfl rfl tsl61 (by exact fin1_fits18_ok) (by exact fin1_fits18_ok)) ?_
          refine VD.y rfl rfl (.inr ⟨_, _, rfl, _, rfl, rfl⟩) (.fa rfl tst52 rfl) ?_
          refine VD.y rfl rfl (.inr ⟨_, _, rfl, _, rfl, rfl⟩) (.ld1 0 rfl tk3 rfl (hce9.at1 (j := 0) rfl)) ?_
          refine VD.y rfl rfl (.inr ⟨_, _, rfl, _, rfl, rfl⟩) (.fa rfl tst72 rfl) ?_
          refine VD.y rfl rfl (.inr ⟨_, _, rfl, _, rfl, rfl⟩) (.ld1 102 rfl tk61 rfl (cellsAt_one rfl rfl)) ?_
          refine VD.y rfl rfl (.inr ⟨_, _, rfl, _, rfl, rfl⟩) (.mv rfl) ?_
          refine VD.y rfl rfl (.inr ⟨_, _, rfl, _, rfl, rfl⟩) (.ixI k rfl rfl tsl61 rfl (by exact fin1_fits18_ok)) ?_
          refine VD.y rfl rfl (.inr ⟨_, _, rfl, _, rfl, rfl⟩) (.fa rfl tst52 rfl) ?_
          refine VD.y rfl rfl (.inr ⟨_, _, rfl, _, rfl, rfl⟩) (.ld1 0 rfl tk3 rfl (hce7.at1 (j := 0) rfl)) ?_
          refine VD.nil rfl ?_ rfl
          refine VO.gy rfl ⟨_, rfl, rfl⟩ (.neq rfl rfl) ?_
          refine VO.y rfl (.pT rfl rfl) ?_
          refine VO.kp [102, 0] [(102, mone g1 (.cells [Value.int .i64 (d1.1), Value.int .i64 (d1.2.1), Value.int .u8 (d1.2.2.1), Value.int .i64 (d1.2.2.2.1), Value.slice p1_A4 (d1.2.2.2.2.1.length) (p1_c4), Value.int .i64 (d1.2.2.2.2.2.1), Value.int .i64 (d1.2.2.2.2.2.2.1), Value.slice (some ⟨gg7, oo7, none⟩) (d1.2.2.2.2.2.2.2.length) (p1_c7)].toArray 72 (0, 0))), (0, wm W)] ?_
          refine VO.k10 0 1 3 5 6 7 10 21 26 53 ?_
          refine outN ?_
          refine VC.cond rfl (fun hc11 => ?_) (fun hc11 => ?_)
          · -- TFTTT
            refine VC.rs ?_
            refine VO.as ?_
            refine VO.k11 0 1 3 4 5 6 7 10 21 26 53 ?_
            refine VC.ret ?_
            refine outBR ?_
            refine outR ?_
            refine outR ?_
            refine outBR ?_
            refine outR ?_
            refine ⟨_, _, res_run (rs := [.tmp 4]) rfl (.tmp rfl .nil), fun W_ hI => out_of (l := []) hI [] rfl rfl (mle_refl _) (fun hS_ => ?_)⟩
            dsimp only [packV]
            all_goals (first | rfl | (exact fin0_fits18_ok))
          · -- TFTTF
            refine VC.skip ?_
            refine outBN ?_
            refine outN ?_
            refine VC.reg ?_
            refine VO.mv ?_
            refine VO.y rfl (.add (c := ((k + 1 : Nat) : Int)) rfl rfl (by omega) ⟨by exact fin1_fits18_ok, by exact fin1_fits18_ok⟩) ?_
            refine VO.as ?_
            refine VO.k10 0 1 3 5 6 7 10 21 26 53 ?_
            exact outN ⟨k + 1, ⟨by omega, by exact all_next ha ‹d1.2.2.2.2.2.2.2[k]? = some _› (fun h => by first | omega | (rw [epochAt_of ‹d0[_]? = some _›]; omega))⟩, by exact fin1_fits18_ok, ⟨⟨rfl, rfl, rfl, rfl, rfl, rfl, rfl, trivial⟩, fun _ h => Inv.sub h [102, 0]⟩⟩
        · -- TFTF
          refine VD.gn rfl rfl (.inl ⟨_, rfl, rfl⟩) ?_
          refine VD.gn rfl rfl (.inl ⟨_, rfl, rfl⟩) ?_
          refine VD.gn rfl rfl (.inl ⟨_, rfl, rfl⟩) ?_
          refine VD.gn rfl rfl (.inl ⟨_, rfl, rfl⟩) ?_
          refine VD.gn rfl rfl (.inl ⟨_, rfl, rfl⟩) ?_
          refine VD.gn rfl rfl (.inl ⟨_, rfl, rfl⟩) ?_
          refine VD.gn rfl rfl (.inl ⟨_, rfl, rfl⟩) ?_
          refine VD.gn rfl rfl (.inl ⟨_, rfl, rfl⟩) ?_
          refine VD.gn rfl rfl (.inl ⟨_, rfl, rfl⟩) ?_
          refine VD.gn rfl rfl (.inl ⟨_, rfl, rfl⟩) ?_
          refine VD.gn rfl rfl (.inl ⟨_, rfl, rfl⟩) ?_
          refine VD.gn rfl rfl (.inl ⟨_, rfl, rfl⟩) ?_
          refine VD.nil rfl ?_ rfl
          refine VO.gN ?_
          refine VO.y rfl (.pF rfl rfl) ?_
          refine VO.kp [102, 0] [(102, mone g1 (.cells [Value.int .i64 (d1.1), Value.int .i64 (d1.2.1), Value.int .u8 (d1.2.2.1), Value.int .i64 (d1.2.2.2.1), Value.slice p1_A4 (d1.2.2.2.2.1.length) (p1_c4), Value.int .i64 (d1.2.2.2.2.2.1), Value.int .i64 (d1.2.2.2.2.2.2.1), Value.slice (some ⟨gg7, oo7, none⟩) (d1.2.2.2.2.2.2.2.length) (p1_c7)].toArray 72 (0, 0))), (0, wm W)] ?_
          refine VO.k10 0 1 3 5 6 7 10 21 26 53 ?_
          refine outN ?_
          refine VC.condF rfl ?_
          refine VC.skip ?_
          refine outBN ?_
          refine outN ?_
          refine VC.reg ?_
          refine VO.mv ?_
          refine VO.y rfl (.add (c := ((k + 1 : Nat) : Int)) rfl rfl (by omega) ⟨by exact fin1_fits18_ok, by exact fin1_fits18_ok⟩) ?_
          refine VO.as ?_
          refine VO.k10 0 1 3 5 6 7 10 21 26 53 ?_
          exact outN ⟨k + 1, ⟨by omega, by exact all_next ha ‹d1.2.2.2.2.2.2.2[k]? = some _› (fun h => by first | omega | (rw [epochAt_of ‹d0[_]? = some _›]; omega))⟩, by exact fin1_fits18_ok, ⟨⟨rfl, rfl, rfl, rfl, rfl, rfl, rfl, trivial⟩, fun _ h => Inv.sub h [102, 0]⟩⟩
      · -- TFF
        refine VC.exit ?_
        refine outE ?_
        refine outE ?_
        refine outBB ?_
        refine outN ?_
        refine VC.rs ?_
        refine VO.as ?_
        refine VO.k9 0 1 3 4 5 6 10 21 26 ?_
        refine VC.ret ?_
        refine ⟨_, _, res_run (rs := [.tmp 4]) rfl (.tmp rfl .nil), fun W_ hI => out_of (l := []) hI [] rfl rfl (mle_refl _) (fun hS_ => ?_)⟩
        dsimp only [packV]
        all_goals (first | rfl | (exact fin0_fits18_ok))
  · -- F
    refine VC.skip ?_
    refine outN ?_
    refine VC.seq ?_
    refine VC.rs ?_
    refine VO.mv ?_
    refine VO.y rfl (.fa rfl tst72 rfl) ?_
    refine VO.y rfl (.ld1 102 rfl tk3 rfl (cellsAt_one rfl rfl)) ?_
    refine VO.y rfl (.neq rfl rfl) ?_
    refine VO.k7 0 1 3 4 5 10 21 ?_
    refine VC.cond rfl (fun hc12 => ?_) (fun hc12 => ?_)
    · -- FT
      refine VC.rs ?_
      refine VO.as ?_
      refine VO.k7 0 1 3 4 5 10 21 ?_
      refine VC.ret ?_
      refine outR ?_
      refine ⟨_, _, res_run (rs := [.tmp 4]) rfl (.tmp rfl .nil), fun W_ hI => out_of (l := []) hI [] rfl rfl (mle_refl _) (fun hS_ => ?_)⟩
      dsimp only [packV]
      all_goals (first | rfl | (exact fin0_fits18_ok))
    · -- FF
      refine VC.skip ?_
      refine outN ?_
      refine VC.seq ?_
      refine VC.rs ?_
      refine VO.as ?_
      refine VO.k8 0 1 3 4 5 6 10 21 ?_
      refine VC.block ?_
      refine VC.loop (G := Nat) (fun k => [(6, Value.int .i64 (((k : Nat) : Int))), (0, Value.slice A0 (d0.length) (c0)), (1, Value.agg [Value.int .i64 (d1.1), Value.int .i64 (d1.2.1), Value.int .u8 (d1.2.2.1), Value.int .i64 (d1.2.2.2.1), Value.slice p1_A4 (d1.2.2.2.2.1.length) (p1_c4), Value.int .i64 (d1.2.2.2.2.2.1), Value.int .i64 (d1.2.2.2.2.2.2.1), Value.slice p1_A7 (d1.2.2.2.2.2.2.2.length) (p1_c7)].toArray), (3, Value.pointer (some ⟨g1, 0, none⟩)), (5, Value.int .i64 (0)), (10, Value.bool (decide (1 < d1.2.2.2.2.2.1))), (21, Value.bool (decide (¬ 0 = d1.2.2.2.2.2.2.1)))]) (fun k => [(102, mone g1 (.cells [Value.int .i64 (d1.1), Value.int .i64 (d1.2.1), Value.int .u8 (d1.2.2.1), Value.int .i64 (d1.2.2.2.1), Value.slice p1_A4 (d1.2.2.2.2.1.length) (p1_c4), Value.int .i64 (d1.2.2.2.2.2.1), Value.int .i64 (d1.2.2.2.2.2.2.1), Value.slice p1_A7 (d1.2.2.2.2.2.2.2.length) (p1_c7)].toArray 72 (0, 0))), (0, wm W)]) (fun k => (k ≤ d1.2.2.2.2.2.2.2.length) ∧ (∀ c ∈ d1.2.2.2.2.2.2.2.take k, c.2.1 ≤ d0.length → epochAt d0 (c.2.1 - 1) = c.1)) (fun k => d1.2.2.2.2.2.2.2.length - k) 0 (⟨by omega, by simp⟩) ⟨⟨rfl, rfl, rfl, rfl, rfl, rfl, rfl, trivial⟩, fun _ h => h.sub [102, 0]⟩ ?_
      rintro k ⟨hk, ha⟩
      refine VC.seq ?_
      refine VC.rs ?_
      refine VO.mv ?_
      refine VO.y rfl (.fa rfl tst72 rfl) ?_
      refine VO.y rfl (.ld1 102 rfl tk61 rfl (cellsAt_one rfl rfl)) ?_
      refine VO.y rfl (.lenS rfl tsl61) ?_
      refine VO.y rfl (.lss rfl rfl) ?_
      refine VO.kp [102, 0] [(102, mone g1 (.cells [Value.int .i64 (d1.1), Value.int .i64 (d1.2.1), Value.int .u8 (d1.2.2.1), Value.int .i64 (d1.2.2.2.1), Value.slice p1_A4 (d1.2.2.2.2.1.length) (p1_c4), Value.int .i64 (d1.2.2.2.2.2.1), Value.int .i64 (d1.2.2.2.2.2.2.1), Value.slice p1_A7 (d1.2.2.2.2.2.2.2.length) (p1_c7)].toArray 72 (0, 0))), (0, wm W)] ?_
      refine VO.k8 0 1 3 5 6 10 21 26 ?_
      refine VC.cond rfl (fun hc13 => ?_) (fun hc13 => ?_)
      · -- FFT
        refine VC.skip ?_
        refine outN ?_
        refine VC.seq ?_
        refine VC.block ?_
        refine VC.rs ?_
        refine VO.y rfl (.fa rfl tst72 rfl) ?_
        refine VO.y rfl (.ld1 102 rfl tk61 rfl (cellsAt_one rfl rfl)) ?_
        refine VO.mv ?_
        obtain ⟨x14, hx14⟩ : ∃ z_, (d1.2.2.2.2.2.2.2)[k]? = some z_ := ⟨_, List.getElem?_eq_getElem (by exact fin1_fits18_ok)⟩
        obtain ⟨gg14, oo14, ec14, ea14, hce14, hre14⟩ := p1_7.elem hx14
        cases ea14
        obtain ⟨q14_A2, q14_c2, rfl, q14_0, q14_1, q14_2⟩ := open_Commit (x0 := x14.1) (x1 := x14.2.1) (x2 := x14.2.2) hre14
        simp only [inK] at q14_0
        simp only [inK] at q14_1
        have q14_r2 := Rd.room q14_2
        refine VO.y rfl (.ixI k rfl rfl tsl61 rfl (by exact fin1_fits18_ok)) ?_
        refine VO.y rfl (.fa rfl tst52 rfl) ?_
        refine VO.y rfl (.ld1 0 rfl tk3 rfl (hce14.at1 (j := 1) rfl)) ?_
        refine VO.as ?_
        refine VO.k9 0 1 3 5 6 7 10 21 26 ?_
        refine VC.seq ?_
        refine VC.regD _ 17 [(0, true), (1, true), (2, true), (3, true), (4, true), (5, true), (6, true), (7, true), (8, true), (9, true), (10, true), (11, true), (12, true), (13, true), (14, true), (15, true), (16, true)] follows (by kernel_rfl) (fun _ h => h.sub [102, 0]) ?_
        refine VD.y rfl rfl (.inl rfl) (.mv rfl) ?_
        refine VD.y rfl rfl (.inl rfl) (.mv rfl) ?_
        refine VD.y rfl rfl (.inl rfl) (.lenS rfl tsl61) ?_
        refine VD.y rfl rfl (.inl rfl) (.leq rfl rfl) ?_
        refine VD.y rfl rfl (.inl rfl) (.mv rfl) ?_
        refine VD.dec (s := 39) rfl (fun hc15 => ?_) (fun hc15 => ?_)
        · -- FFTT
          refine VD.y rfl rfl (.inr ⟨_, _, rfl, _, rfl, rfl⟩) (.mv rfl) ?_
          refine VD.y rfl rfl (.inr ⟨_, _, rfl, _, rfl, rfl⟩) (.mv rfl) ?_
          refine VD.y rfl rfl (.inr ⟨_, _, rfl, _, rfl, rfl⟩) (.sub rfl rfl rfl ⟨by exact fin1_fits18_ok, by exact fin1_fits18_ok⟩) ?_
          obtain ⟨x16, hx16⟩ : ∃ z_, (d0)[(x14.2.1 - 1).toNat]? = some z_ := ⟨_, List.getElem?_eq_getElem (by exact fin1_fits18_ok)⟩
          obtain ⟨gg16, oo16, ec16, ea16, hce16, hre16⟩ := h0.elem hx16
          cases ea16
          obtain ⟨q16_A2, q16_c2, rfl, q16_0, q16_1, q16_2⟩ := open_Commit (x0 := x16.1) (x1 := x16.2.1) (x2 := x16.2.2) hre16
          simp only [inK] at q16_0
          simp only [inK] at q16_1
          have q16_r2 := Rd.room q16_2
          refine VD.y rfl rfl (.inr ⟨_, _, rfl, _, rfl, rfl⟩) (.ixI ((x14.2.1 - 1).toNat) rfl rfl tsl61 (by exact fin1_fits18_ok) (by exact fin1_fits18_ok)) ?_
          refine VD.y rfl rfl (.inr ⟨_, _, rfl, _, rfl, rfl⟩) (.fa rfl tst52 rfl) ?_
          refine VD.y rfl rfl (.inr ⟨_, _, rfl, _, rfl, rfl⟩) (.ld1 0 rfl tk3 rfl (hce16.at1 (j := 0) rfl)) ?_
          refine VD.y rfl rfl (.inr ⟨_, _, rfl, _, rfl, rfl⟩) (.fa rfl tst72 rfl) ?_
          refine VD.y rfl rfl (.inr ⟨_, _, rfl, _, rfl, rfl⟩) (.ld1 102 rfl tk61 rfl (cellsAt_one rfl rfl)) ?_
          refine VD.y rfl rfl (.inr ⟨_, _, rfl, _, rfl, rfl⟩) (.mv rfl) ?_
          refine VD.y rfl rfl (.inr ⟨_, _, rfl, _, rfl, rfl⟩) (.ixI k rfl rfl tsl61 rfl (by exact fin1_fits18_ok)) ?_
          refine VD.y rfl rfl (.inr ⟨_, _, rfl, _, rfl, rfl⟩) (.fa rfl tst52 rfl) ?_
          refine VD.y rfl rfl (.inr ⟨_, _, rfl, _, rfl, rfl⟩) (.ld1 0 rfl tk3 rfl (hce14.at1 (j := 0) rfl)) ?_
          refine VD.nil rfl ?_ rfl
          refine VO.gy rfl ⟨_, rfl, rfl⟩ (.neq rfl rfl) ?_
          refine VO.y rfl (.pT rfl rfl) ?_
          refine VO.k10 0 1 3 5 6 7 10 21 26 53 ?_
          refine outN ?_
          refine VC.cond rfl (fun hc18 => ?_) (fun hc18 => ?_)
          · -- FFTTT
            refine VC.rs ?_
            refine VO.as ?_
            refine VO.kp [102, 0] [(102, mone g1 (.cells [Value.int .i64 (d1.1), Value.int .i64 (d1.2.1), Value.int .u8 (d1.2.2.1), Value.int .i64 (d1.2.2.2.1), Value.slice p1_A4 (d1.2.2.2.2.1.length) (p1_c4), Value.int .i64 (d1.2.2.2.2.2.1), Value.int .i64 (d1.2.2.2.2.2.2.1), Value.slice (some ⟨gg14, oo14, none⟩) (d1.2.2.2.2.2.2.2.length) (p1_c7)].toArray 72 (0, 0))), (0, wm W)] ?_
            refine VO.k11 0 1 3 4 5 6 7 10 21 26 53 ?_
            refine VC.ret ?_
            refine outBR ?_
            refine outR ?_
            refine outR ?_
            refine outBR ?_
            refine outR ?_
            refine ⟨_, _, res_run (rs := [.tmp 4]) rfl (.tmp rfl .nil), fun W_ hI => out_of (l := []) hI [] rfl rfl (mle_refl _) (fun hS_ => ?_)⟩
            dsimp only [packV]
            all_goals (first | rfl | (exact fin0_fits18_ok))
          · -- FFTTF
            refine VC.skip ?_
            refine outBN ?_
            refine outN ?_
            refine VC.reg ?_
            refine VO.mv ?_
            refine VO.y rfl (.add (c := ((k + 1 : Nat) : Int)) rfl rfl (by omega) ⟨by exact fin1_fits18_ok, by exact fin1_fits18_ok⟩) ?_
            refine VO.as ?_
            refine VO.kp [102, 0] [(102, mone g1 (.cells [Value.int .i64 (d1.1), Value.int .i64 (d1.2.1), Value.int .u8 (d1.2.2.1), Value.int .i64 (d1.2.2.2.1), Value.slice p1_A4 (d1.2.2.2.2.1.length) (p1_c4), Value.int .i64 (d1.2.2.2.2.2.1), Value.int .i64 (d1.2.2.2.2.2.2.1), Value.slice (some ⟨gg14, oo14, none⟩) (d1.2.2.2.2.2.2.2.length) (p1_c7)].toArray 72 (0, 0))), (0, wm W)] ?_
            refine VO.k10 0 1 3 5 6 7 10 21 26 53 ?_
            exact outN ⟨k + 1, ⟨by omega, by exact all_next ha ‹d1.2.2.2.2.2.2.2[k]? = some _› (fun h => by first | omega | (rw [epochAt_of ‹d0[_]? = some _›]; omega))⟩, by exact fin1_fits18_ok, ⟨⟨rfl, rfl, rfl, rfl, rfl, rfl, rfl, trivial⟩, fun _ h => Inv.sub h [102, 0]⟩⟩
        · -- FFTF
          refine VD.gn rfl rfl (.inl ⟨_, rfl, rfl⟩) ?_
          refine VD.gn rfl rfl (.inl ⟨_, rfl, rfl⟩) ?_
          refine VD.gn rfl rfl (.inl ⟨_, rfl, rfl⟩) ?_
          refine VD.gn rfl rfl (.inl ⟨_, rfl, rfl⟩) ?_
          refine VD.gn rfl rfl (.inl ⟨_, rfl, rfl⟩) ?_
          refine VD.gn rfl rfl (.inl ⟨_, rfl, rfl⟩) ?_
          refine VD.gn rfl rfl (.inl ⟨_, rfl, rfl⟩) ?_
          refine VD.gn rfl rfl (.inl ⟨_, rfl, rfl⟩) ?_
          refine VD.gn rfl rfl (.inl ⟨_, rfl, rfl⟩) ?_
          refine VD.gn rfl rfl (.inl ⟨_, rfl, rfl⟩) ?_
          refine VD.gn rfl rfl (.inl ⟨_, rfl, rfl⟩) ?_
          refine VD.gn rfl rfl (.inl ⟨_, rfl, rfl⟩) ?_
          refine VD.nil rfl ?_ rfl
          refine VO.gN ?_
          refine VO.y rfl (.pF rfl rfl) ?_
          refine VO.k10 0 1 3 5 6 7 10 21 26 53 ?_
          refine outN ?_
          refine VC.condF rfl ?_
          refine VC.skip ?_
          refine outBN ?_
          refine outN ?_
          refine VC.reg ?_
          refine VO.mv ?_
          refine VO.y rfl (.add (c := ((k + 1 : Nat) : Int)) rfl rfl (by omega) ⟨by exact fin1_fits18_ok, by exact fin1_fits18_ok⟩) ?_
          refine VO.as ?_
          refine VO.kp [102, 0] [(102, mone g1 (.cells [Value.int .i64 (d1.1), Value.int .i64 (d1.2.1), Value.int .u8 (d1.2.2.1), Value.int .i64 (d1.2.2.2.1), Value.slice p1_A4 (d1.2.2.2.2.1.length) (p1_c4), Value.int .i64 (d1.2.2.2.2.2.1), Value.int .i64 (d1.2.2.2.2.2.2.1), Value.slice (some ⟨gg14, oo14, none⟩) (d1.2.2.2.2.2.2.2.length) (p1_c7)].toArray 72 (0, 0))), (0, wm W)] ?_
          refine VO.k10 0 1 3 5 6 7 10 21 26 53 ?_
          exact outN ⟨k + 1, ⟨by omega, by exact all_next ha ‹d1.2.2.2.2.2.2.2[k]? = some _› (fun h => by first | omega | (rw [epochAt_of ‹d0[_]? = some _›]; omega))⟩, by exact fin1_fits18_ok, ⟨⟨rfl, rfl, rfl, rfl, rfl, rfl, rfl, trivial⟩, fun _ h => Inv.sub h [102, 0]⟩⟩
      · -- FFF
        refine VC.exit ?_
        refine outE ?_
        refine outE ?_
        refine outBB ?_
        refine outN ?_
        refine VC.rs ?_
        refine VO.as ?_
        refine VO.k9 0 1 3 4 5 6 10 21 26 ?_
        refine VC.ret ?_
        refine ⟨_, _, res_run (rs := [.tmp 4]) rfl (.tmp rfl .nil), fun W_ hI => out_of (l := []) hI [] rfl rfl (mle_refl _) (fun hS_ => ?_)⟩
        dsimp only [packV]
        all_goals (first | rfl | (exact fin0_fits18_ok))
theorem fin0_take18_ok {P : Prop} (h : P := by first | (rw [take_follows (fun q => absurd (none_iff.2 q) (by assumption))] <;> rfl) | (have hz_ : ¬ ¬ (cFollows 0 0 d1).1 = 0 := fun q => q (Decidable.not_not.1 ‹¬ ¬ ((cFollows 0 0 d1).1 = 0 ∧ _)›).1; first | (rw [take_check ‹¬ ¬ _› (by omega)] <;> rfl) | (rw [take_stale ‹¬ ¬ _› (by omega) (by omega) (by omega)] <;> rfl) | (rw [take_later ‹¬ ¬ _› (by omega) (by omega) (by omega) (by omega)] <;> rfl) | (rw [take_gap ‹¬ ¬ _› (by omega) (by omega) (by omega) (by omega) (by omega)] <;> rfl) | (rw [take_fork ‹¬ ¬ (cFollows 0 0 _).1 = 0› (by omega) (by omega) (by omega) (by omega) (by omega) ‹¬ fitsM _ _›] <;> rfl) | (rw [take_good ‹¬ ¬ (cFollows 0 0 _).1 = 0› (by omega) (by omega) (by omega) (by omega) (by omega) (Decidable.not_not.1 ‹¬ ¬ fitsM _ _›), ho, List.take_of_length_le (by omega)]))) : P := h
theorem fin1_take18_ok {P : Prop} (h : P := by first | (rw [take_follows (fun q => absurd (none_iff.2 q) (by assumption))] <;> rfl) | (have hz_ : ¬ ¬ (cFollows 0 0 d1).1 = 0 := fun q => q (Decidable.not_not.1 ‹¬ ¬ ((cFollows 0 0 d1).1 = 0 ∧ _)›).1; first | (rw [take_check ‹¬ ¬ _› (by omega)] <;> rfl) | (rw [take_stale ‹¬ ¬ _› (by omega) (by omega) (by omega)] <;> rfl) | (rw [take_later ‹¬ ¬ _› (by omega) (by omega) (by omega) (by omega)] <;> rfl) | (rw [take_gap ‹¬ ¬ _› (by omega) (by omega) (by omega) (by omega) (by omega)] <;> rfl) | (rw [take_fork ‹¬ ¬ (cFollows 0 0 _).1 = 0› (by omega) (by omega) (by omega) (by omega) (by omega) ‹¬ fitsM _ _›] <;> rfl) | (rw [take_good ‹¬ ¬ (cFollows 0 0 _).1 = 0› (by omega) (by omega) (by omega) (by omega) (by omega) (Decidable.not_not.1 ‹¬ ¬ fitsM _ _›)] <;> rfl))) : P := h
theorem fin2_take18_ok {P : Prop} (h : P := by first | omega | (simp only [List.length_append, List.length_nil, List.length_cons, List.length_take, List.length_drop] at *; omega) | exact ship_room (by omega) (by omega) ‹d2.2.2.2.2.2.2.2[k]? = some _› | (have := (lCheck_ship (m := d2) (by omega) (by omega)).1; omega) | (have h_ := follows_len (And.left (Decidable.not_not.1 ‹¬ ¬ ((cFollows 0 0 d1).1 = 0 ∧ _)›)) (by omega); omega)) : P := h
theorem take18_ok (W : World) (d0 : Int) (h0 : inK .i64 d0) {v1 : Value} {d1 : List DCommit} (h1 : Rd (.sl TCommit) (wm W) [v1] d1) {v2 : List Value} {d2 : DMessage} (h2 : Rd TMessage (wm W) v2 d2) : CallR Try.prog 84 [.int .i64 d0, v1, .agg v2.toArray] W (mnil) (fun v m' => ∃ (s0 : Value), v = .tuple #[s0, .int .i64 ((takeOf d0 d1 d2).2)] ∧ Ow (.sl TCommit) m' [s0] ((takeOf d0 d1 d2).1)) := by
  have h0' := h0; simp only [inK] at h0'
  obtain ⟨A1, c1, rfl, l1, k1⟩ := h1.slice
  simp only [maxLen] at k1
  obtain ⟨p2_A4, p2_c4, p2_A7, p2_c7, rfl, p2_0, p2_1, p2_2, p2_3, p2_4, p2_5, p2_6, p2_7⟩ := open_Message (x0 := d2.1) (x1 := d2.2.1) (x2 := d2.2.2.1) (x3 := d2.2.2.2.1) (x4 := d2.2.2.2.2.1) (x5 := d2.2.2.2.2.2.1) (x6 := d2.2.2.2.2.2.2.1) (x7 := d2.2.2.2.2.2.2.2) h2
  simp only [inK] at p2_0
  simp only [inK] at p2_1
  simp only [inK] at p2_2
  simp only [inK] at p2_3
  have p2_r4 := Rd.room p2_4
  simp only [inK] at p2_5
  simp only [inK] at p2_6
  have p2_r7 := Rd.room p2_7
  refine CallR.ofA (n := 76) Try.func84 rfl rfl rfl ?_
  refine VC.rs ?_
  refine VO.box (cs := [Value.int .i64 (d2.1), Value.int .i64 (d2.2.1), Value.int .u8 (d2.2.2.1), Value.int .i64 (d2.2.2.2.1), Value.slice p2_A4 (d2.2.2.2.2.1.length) (p2_c4), Value.int .i64 (d2.2.2.2.2.2.1), Value.int .i64 (d2.2.2.2.2.2.2.1), Value.slice p2_A7 (d2.2.2.2.2.2.2.2.length) (p2_c7)]) 102 rfl rfl rfl (fun g1 => ?_)
  refine VO.as ?_
  refine VO.as ?_
  refine VO.k6 0 1 2 5 6 7 ?_
  refine VC.rs ?_
  refine VO.mv ?_
  refine VO.callN 103 rfl fnOk54 rfl (fun W hW => c4Follows_ok W 0 (by simp only [inK]; (exact fin2_take18_ok)) 0 (by simp only [inK]; (exact fin2_take18_ok)) (Rd.mono h1 (hW.at (i := 0) rfl))) (fun v3 m3 hv3 => ?_)
  obtain ⟨s3_0, rfl, f3_0⟩ := hv3
  obtain ⟨rfl, q3_0_0, q3_0_1⟩ := open_Fault (x0 := (cFollows 0 0 d1).1) (x1 := (cFollows 0 0 d1).2) (f3_0.rd (mle_refl _))
  simp only [inK] at q3_0_0
  simp only [inK] at q3_0_1
  refine VO.alloc 105 rfl tz57 (fun g4 => ?_)
  refine VO.store (k := 2) (c' := [Value.int .i64 ((cFollows 0 0 d1).1), Value.int .i64 ((cFollows 0 0 d1).2)]) 105 rfl rfl (.inl tk57) rfl rfl rfl rfl rfl ?_
  refine VO.k7 0 1 2 5 6 7 8 ?_
  refine VC.seq ?_
  refine VC.block ?_
  refine VC.rs ?_
  refine VO.y rfl (.ldA 105 rfl tk57 rfl (cellsAt_one rfl rfl)) ?_
  refine VO.y rfl (.bst (cs := [Value.int .i64 (0), Value.int .i64 (0)]) rfl tst57 tz57 rfl) ?_
  refine VO.y rfl (.stneq (p := ((cFollows 0 0 d1).1) = 0 ∧ ((cFollows 0 0 d1).2) = 0) rfl rfl (teq57 ((cFollows 0 0 d1).1) ((cFollows 0 0 d1).2)) (teq57 0 0) (by simp [ceq, ba_toList])) ?_
  refine VO.as ?_
  refine VO.kp [105, 102, 0] [(105, mone g4 (.cells [Value.int .i64 ((cFollows 0 0 d1).1), Value.int .i64 ((cFollows 0 0 d1).2)].toArray 57 (0, 0))), (102, mone g1 (.cells [Value.int .i64 (d2.1), Value.int .i64 (d2.2.1), Value.int .u8 (d2.2.2.1), Value.int .i64 (d2.2.2.2.1), Value.slice p2_A4 (d2.2.2.2.2.1.length) (p2_c4), Value.int .i64 (d2.2.2.2.2.2.1), Value.int .i64 (d2.2.2.2.2.2.2.1), Value.slice p2_A7 (d2.2.2.2.2.2.2.2.length) (p2_c7)].toArray 72 (0, 0))), (0, wm W)] ?_
  refine VO.k8 0 1 2 5 6 7 8 13 ?_
  refine VC.cond rfl (fun hc6 => ?_) (fun hc6 => ?_)
  · -- T
    refine VC.seq ?_
    refine VC.regD _ 3 [(0, true), (1, true), (2, true)] follows (by kernel_rfl) (fun _ h => h.sub [105, 102, 0]) ?_
    refine VD.y rfl rfl (.inl rfl) (.fa rfl tst57 rfl) ?_
    refine VD.y rfl rfl (.inl rfl) (.ld1 105 rfl tk26 rfl (cellsAt_one rfl rfl)) ?_
    refine VD.y rfl rfl (.inl rfl) (.as rfl) ?_
    refine VD.nil rfl ?_ rfl
    refine VO.as ?_
    refine VO.k8 0 1 2 5 6 7 8 13 ?_
    refine outN ?_
    refine VC.ret ?_
    refine outBR ?_
    refine outR ?_
    refine ⟨_, _, res_run (rs := [.tmp 6, .tmp 7]) rfl (.tmp rfl (.tmp rfl .nil)), fun W_ hI => out_of (l := []) hI [] rfl rfl (mle_refl _) (fun hS_ => ?_)⟩
    dsimp only [packV]
    have he0 : ((takeOf d0 d1 d2).1 : Ty.Den (.sl TCommit)) = [] := by first | rfl | (exact fin0_take18_ok)
    refine ⟨Value.slice none (0) (0), ?_, ?_⟩
    rotate_left
    · rw [he0]; exact (Ow.nil _ _)
    all_goals (first | rfl | (exact fin1_take18_ok))
  · -- F
    refine VC.rs ?_
    refine VO.y rfl (.ldA 102 rfl tk72 rfl (cellsAt_one rfl rfl)) ?_
    refine VO.callN 107 rfl fnOk121 rfl (fun W hW => check11_ok W (Rd.mono h2 (hW.at (i := 0) rfl))) (fun v7 m7 hv7 => ?_)
    subst hv7
    have hfa8 := lCheck_range d2
    refine VO.y rfl (.neq rfl rfl) ?_
    refine VO.mv ?_
    refine VO.dec (t := 23) rfl (fun hc9 => ?_) (fun hc9 => ?_)
    · -- FT
      refine VO.gN ?_
      refine VO.gN ?_
      refine VO.gN ?_
      refine VO.y rfl (.pT rfl rfl) ?_
      refine VO.as ?_
      refine VO.k9 0 1 2 5 6 7 8 13 19 ?_
      refine VC.condT rfl ?_
      refine VC.rs ?_
      refine VO.as ?_
      refine VO.as ?_
      refine VO.k9 0 1 2 5 6 7 8 13 19 ?_
      refine VC.ret ?_
      refine outBR ?_
      refine outR ?_
      refine ⟨_, _, res_run (rs := [.tmp 6, .tmp 7]) rfl (.tmp rfl (.tmp rfl .nil)), fun W_ hI => out_of (l := []) hI [] rfl rfl (mle_refl _) (fun hS_ => ?_)⟩
      dsimp only [packV]
      have he0 : ((takeOf d0 d1 d2).1 : Ty.Den (.sl TCommit)) = [] := by first | rfl | (exact fin0_take18_ok)
      refine ⟨Value.slice none (0) (0), ?_, ?_⟩
      rotate_left
      · rw [he0]; exact (Ow.nil _ _)
      all_goals (first | rfl | (exact fin1_take18_ok))
    · -- FF
      refine VO.gy rfl ⟨_, rfl, rfl⟩ (.fa rfl tst72 rfl) ?_
      refine VO.gy rfl ⟨_, rfl, rfl⟩ (.ld1 102 rfl tk3 rfl (cellsAt_one rfl rfl)) ?_
      refine VO.gy rfl ⟨_, rfl, rfl⟩ (.neq rfl rfl) ?_
      refine VO.y rfl (.pF rfl rfl) ?_
      refine VO.as ?_
      refine VO.k9 0 1 2 5 6 7 8 13 19 ?_
      refine VC.cond rfl (fun hc10 => ?_) (fun hc10 => ?_)
      · -- FFT
        refine VC.rs ?_
        refine VO.as ?_
        refine VO.as ?_
        refine VO.k9 0 1 2 5 6 7 8 13 19 ?_
        refine VC.ret ?_
        refine outBR ?_
        refine outR ?_
        refine ⟨_, _, res_run (rs := [.tmp 6, .tmp 7]) rfl (.tmp rfl (.tmp rfl .nil)), fun W_ hI => out_of (l := []) hI [] rfl rfl (mle_refl _) (fun hS_ => ?_)⟩
        dsimp only [packV]
        have he0 : ((takeOf d0 d1 d2).1 : Ty.Den (.sl TCommit)) = [] := by first | rfl | (exact fin0_take18_ok)
        refine ⟨Value.slice none (0) (0), ?_, ?_⟩
        rotate_left
        · rw [he0]; exact (Ow.nil _ _)
        all_goals (first | rfl | (exact fin1_take18_ok))
      · -- FFF
        refine VC.rs ?_
        refine VO.y rfl (.fa rfl tst72 rfl) ?_
        refine VO.y rfl (.ld1 102 rfl tk3 rfl (cellsAt_one rfl rfl)) ?_
        refine VO.mv ?_
        refine VO.y rfl (.lss rfl rfl) ?_
        refine VO.as ?_
        refine VO.k10 0 1 2 5 6 7 8 13 19 28 ?_
        refine VC.cond rfl (fun hc11 => ?_) (fun hc11 => ?_)
        · -- FFFT
          refine VC.rs ?_
          refine VO.as ?_
          refine VO.as ?_
          refine VO.kp [105, 102, 0] [(105, mone g4 (.cells [Value.int .i64 ((cFollows 0 0 d1).1), Value.int .i64 ((cFollows 0 0 d1).2)].toArray 57 (0, 0))), (102, mone g1 (.cells [Value.int .i64 (d2.1), Value.int .i64 (d2.2.1), Value.int .u8 (d2.2.2.1), Value.int .i64 (d2.2.2.2.1), Value.slice p2_A4 (d2.2.2.2.2.1.length) (p2_c4), Value.int .i64 (d2.2.2.2.2.2.1), Value.int .i64 (d2.2.2.2.2.2.2.1), Value.slice p2_A7 (d2.2.2.2.2.2.2.2.length) (p2_c7)].toArray 72 (0, 0))), (0, wm W)] ?_
          refine VO.k10 0 1 2 5 6 7 8 13 19 28 ?_
          refine VC.ret ?_
          refine outBR ?_
          refine outR ?_
          refine ⟨_, _, res_run (rs := [.tmp 6, .tmp 7]) rfl (.tmp rfl (.tmp rfl .nil)), fun W_ hI => out_of (l := []) hI [] rfl rfl (mle_refl _) (fun hS_ => ?_)⟩
          dsimp only [packV]
          have he0 : ((takeOf d0 d1 d2).1 : Ty.Den (.sl TCommit)) = [] := by first | rfl | (exact fin0_take18_ok)
          refine ⟨Value.slice none (0) (0), ?_, ?_⟩
          rotate_left
          · rw [he0]; exact (Ow.nil _ _)
          all_goals (first | rfl | (exact fin1_take18_ok))
        · -- FFFF
          refine VC.rs ?_
          refine VO.y rfl (.fa rfl tst72 rfl) ?_
          refine VO.y rfl (.ld1 102 rfl tk3 rfl (cellsAt_one rfl rfl)) ?_
          refine VO.mv ?_
          refine VO.y rfl (.gtr rfl rfl) ?_
          refine VO.as ?_
          refine VO.kp [105, 102, 0] [(105, mone g4 (.cells [Value.int .i64 ((cFollows 0 0 d1).1), Value.int .i64 ((cFollows 0 0 d1).2)].toArray 57 (0, 0))), (102, mone g1 (.cells [Value.int .i64 (d2.1), Value.int .i64 (d2.2.1), Value.int .u8 (d2.2.2.1), Value.int .i64 (d2.2.2.2.1), Value.slice p2_A4 (d2.2.2.2.2.1.length) (p2_c4), Value.int .i64 (d2.2.2.2.2.2.1), Value.int .i64 (d2.2.2.2.2.2.2.1), Value.slice p2_A7 (d2.2.2.2.2.2.2.2.length) (p2_c7)].toArray 72 (0, 0))), (0, wm W)] ?_
          refine VO.k11 0 1 2 5 6 7 8 13 19 28 33 ?_
          refine VC.cond rfl (fun hc12 => ?_) (fun hc12 => ?_)
          · -- FFFFT
            refine VC.rs ?_
            refine VO.as ?_
            refine VO.as ?_
            refine VO.k11 0 1 2 5 6 7 8 13 19 28 33 ?_
            refine VC.ret ?_
            refine outBR ?_
            refine outR ?_
            refine ⟨_, _, res_run (rs := [.tmp 6, .tmp 7]) rfl (.tmp rfl (.tmp rfl .nil)), fun W_ hI => out_of (l := []) hI [] rfl rfl (mle_refl _) (fun hS_ => ?_)⟩
            dsimp only [packV]
            have he0 : ((takeOf d0 d1 d2).1 : Ty.Den (.sl TCommit)) = [] := by first | rfl | (exact fin0_take18_ok)
            refine ⟨Value.slice none (0) (0), ?_, ?_⟩
            rotate_left
            · rw [he0]; exact (Ow.nil _ _)
            all_goals (first | rfl | (exact fin1_take18_ok))
          · -- FFFFF
            refine VC.rs ?_
            refine VO.y rfl (.fa rfl tst72 rfl) ?_
            refine VO.y rfl (.ld1 102 rfl tk3 rfl (cellsAt_one rfl rfl)) ?_
            refine VO.mv ?_
            refine VO.y rfl (.lenS rfl tsl61) ?_
            refine VO.y rfl (.add (c := ((d1.length + 1 : Nat) : Int)) rfl rfl (by omega) ⟨by exact fin2_take18_ok, by exact fin2_take18_ok⟩) ?_
            refine VO.y rfl (.gtr rfl rfl) ?_
            refine VO.as ?_
            refine VO.k12 0 1 2 5 6 7 8 13 19 28 33 38 ?_
            refine VC.cond rfl (fun hc13 => ?_) (fun hc13 => ?_)
            · -- FFFFFT
              refine VC.rs ?_
              refine VO.as ?_
              refine VO.as ?_
              refine VO.k12 0 1 2 5 6 7 8 13 19 28 33 38 ?_
              refine VC.ret ?_
              refine outBR ?_
              refine outR ?_
              refine ⟨_, _, res_run (rs := [.tmp 6, .tmp 7]) rfl (.tmp rfl (.tmp rfl .nil)), fun W_ hI => out_of (l := []) hI [] rfl rfl (mle_refl _) (fun hS_ => ?_)⟩
              dsimp only [packV]
              have he0 : ((takeOf d0 d1 d2).1 : Ty.Den (.sl TCommit)) = [] := by first | rfl | (exact fin0_take18_ok)
              refine ⟨Value.slice none (0) (0), ?_, ?_⟩
              rotate_left
              · rw [he0]; exact (Ow.nil _ _)
              all_goals (first | rfl | (exact fin1_take18_ok))
            · -- FFFFFF
              refine VC.rs ?_
              refine VO.mv ?_
              refine VO.y rfl (.ldA 102 rfl tk72 rfl (cellsAt_one rfl rfl)) ?_
              refine VO.callN 114 rfl fnOk122 rfl (fun W hW => fits18_ok W (Rd.mono h1 (hW.at (i := 0) rfl)) (Rd.mono h2 (hW.at (i := 0) rfl)) (by omega) (by first | exact ship_pos (by omega) (by omega)) (by exact ⟨(lCheck_ship (by omega) (by omega)).1.1, (lCheck_ship (by omega) (by omega)).2.2.1⟩)) (fun v14 m14 hv14 => ?_)
              subst hv14
              refine VO.y rfl (.notD rfl) ?_
              refine VO.as ?_
              refine VO.k13 0 1 2 5 6 7 8 13 19 28 33 38 45 ?_
              refine VC.cond rfl (fun hc15 => ?_) (fun hc15 => ?_)
              · -- FFFFFFT
                refine VC.rs ?_
                refine VO.as ?_
                refine VO.as ?_
                refine VO.kp [105, 102, 0] [(105, mone g4 (.cells [Value.int .i64 ((cFollows 0 0 d1).1), Value.int .i64 ((cFollows 0 0 d1).2)].toArray 57 (0, 0))), (102, mone g1 (.cells [Value.int .i64 (d2.1), Value.int .i64 (d2.2.1), Value.int .u8 (d2.2.2.1), Value.int .i64 (d2.2.2.2.1), Value.slice p2_A4 (d2.2.2.2.2.1.length) (p2_c4), Value.int .i64 (d2.2.2.2.2.2.1), Value.int .i64 (d2.2.2.2.2.2.2.1), Value.slice p2_A7 (d2.2.2.2.2.2.2.2.length) (p2_c7)].toArray 72 (0, 0))), (0, wm W)] ?_
                refine VO.k13 0 1 2 5 6 7 8 13 19 28 33 38 45 ?_
                refine VC.ret ?_
                refine outBR ?_
                refine outR ?_
                refine ⟨_, _, res_run (rs := [.tmp 6, .tmp 7]) rfl (.tmp rfl (.tmp rfl .nil)), fun W_ hI => out_of (l := []) hI [] rfl rfl (mle_refl _) (fun hS_ => ?_)⟩
                dsimp only [packV]
                have he0 : ((takeOf d0 d1 d2).1 : Ty.Den (.sl TCommit)) = [] := by first | rfl | (exact fin0_take18_ok)
                refine ⟨Value.slice none (0) (0), ?_, ?_⟩
                rotate_left
                · rw [he0]; exact (Ow.nil _ _)
                all_goals (first | rfl | (exact fin1_take18_ok))
              · -- FFFFFFF
                refine VC.skip ?_
                refine outBN ?_
                refine outN ?_
                refine VC.rs ?_
                refine VO.as ?_
                refine VO.kp [105, 102, 0] [(105, mone g4 (.cells [Value.int .i64 ((cFollows 0 0 d1).1), Value.int .i64 ((cFollows 0 0 d1).2)].toArray 57 (0, 0))), (102, mone g1 (.cells [Value.int .i64 (d2.1), Value.int .i64 (d2.2.1), Value.int .u8 (d2.2.2.1), Value.int .i64 (d2.2.2.2.1), Value.slice p2_A4 (d2.2.2.2.2.1.length) (p2_c4), Value.int .i64 (d2.2.2.2.2.2.1), Value.int .i64 (d2.2.2.2.2.2.2.1), Value.slice p2_A7 (d2.2.2.2.2.2.2.2.length) (p2_c7)].toArray 72 (0, 0))), (0, wm W)] ?_
                refine VO.k14 0 1 2 5 6 7 8 9 13 19 28 33 38 45 ?_
                refine VC.seq ?_
                refine VC.rs ?_
                refine VO.as ?_
                refine VO.k15 0 1 2 5 6 7 8 9 10 13 19 28 33 38 45 ?_
                refine VC.block ?_
                refine VC.inv ((116, mnil) :: _) (fun _ h => h.nilc 116) ?_
                refine VC.loop (G := Nat × (List DCommit) × (Option Addr) × Nat × Mem) (fun g => [(9, Value.slice (g.2.2.1) ((g.2.1).length) ((g.2.2.2.1))), (10, Value.int .i64 ((((g.1) : Nat) : Int))), (0, Value.int .i64 (d0)), (1, Value.slice A1 (d1.length) (c1)), (2, Value.agg [Value.int .i64 (d2.1), Value.int .i64 (d2.2.1), Value.int .u8 (d2.2.2.1), Value.int .i64 (d2.2.2.2.1), Value.slice p2_A4 (d2.2.2.2.2.1.length) (p2_c4), Value.int .i64 (d2.2.2.2.2.2.1), Value.int .i64 (d2.2.2.2.2.2.2.1), Value.slice p2_A7 (d2.2.2.2.2.2.2.2.length) (p2_c7)].toArray), (5, Value.pointer (some ⟨g1, 0, none⟩)), (6, Value.slice none (0) (0)), (7, Value.int .i64 (0)), (8, Value.pointer (some ⟨g4, 0, none⟩)), (13, Value.bool (decide (¬ (((cFollows 0 0 d1).1) = 0 ∧ ((cFollows 0 0 d1).2) = 0)))), (19, Value.bool (decide (¬ d2.1 = 2))), (28, Value.bool (decide (d2.2.1 < d0))), (33, Value.bool (decide (d0 < d2.2.1))), (38, Value.bool (decide (((d1.length + 1 : Nat) : Int) < d2.2.2.2.2.2.1))), (45, Value.bool (decide (¬ (fitsM d1 d2))))]) (fun g => [(116, (g.2.2.2.2)), (105, mone g4 (.cells [Value.int .i64 ((cFollows 0 0 d1).1), Value.int .i64 ((cFollows 0 0 d1).2)].toArray 57 (0, 0))), (102, mone g1 (.cells [Value.int .i64 (d2.1), Value.int .i64 (d2.2.1), Value.int .u8 (d2.2.2.1), Value.int .i64 (d2.2.2.2.1), Value.slice p2_A4 (d2.2.2.2.2.1.length) (p2_c4), Value.int .i64 (d2.2.2.2.2.2.1), Value.int .i64 (d2.2.2.2.2.2.2.1), Value.slice p2_A7 (d2.2.2.2.2.2.2.2.length) (p2_c7)].toArray 72 (0, 0))), (0, wm W)]) (fun g => ((g.1) ≤ d2.2.2.2.2.2.2.2.length) ∧ ((g.2.1) = (d2.2.2.2.2.2.2.2.take (g.1)).filter (fun c => decide ((d1.length : Int) < c.2.1))) ∧ (Ow (.sl TCommit) (g.2.2.2.2) [.slice (g.2.2.1) (g.2.1).length (g.2.2.2.1)] (g.2.1))) (fun g => d2.2.2.2.2.2.2.2.length - (g.1)) (0, [], none, 0, mnil) (⟨by omega, by rfl, (Ow.nil TCommit mnil)⟩) ⟨⟨rfl, rfl, rfl, rfl, rfl, rfl, rfl, rfl, rfl, rfl, rfl, rfl, rfl, rfl, rfl, trivial⟩, fun _ h => h.sub [116, 105, 102, 0]⟩ ?_
                rintro ⟨k, out, out_A, out_c, out_m⟩ ⟨hk, ho, h_out⟩
                replace hk : k ≤ d2.2.2.2.2.2.2.2.length := hk
                replace ho : out = (d2.2.2.2.2.2.2.2.take k).filter (fun c => decide ((d1.length : Int) < c.2.1)) := ho
                replace h_out : Ow (.sl TCommit) out_m [.slice out_A out.length out_c] out := h_out
                show VC _ _ _ _ _ [(9, Value.slice out_A (out.length) (out_c)), (10, Value.int .i64 (((k : Nat) : Int))), (0, Value.int .i64 (d0)), (1, Value.slice A1 (d1.length) (c1)), (2, Value.agg [Value.int .i64 (d2.1), Value.int .i64 (d2.2.1), Value.int .u8 (d2.2.2.1), Value.int .i64 (d2.2.2.2.1), Value.slice p2_A4 (d2.2.2.2.2.1.length) (p2_c4), Value.int .i64 (d2.2.2.2.2.2.1), Value.int .i64 (d2.2.2.2.2.2.2.1), Value.slice p2_A7 (d2.2.2.2.2.2.2.2.length) (p2_c7)].toArray), (5, Value.pointer (some ⟨g1, 0, none⟩)), (6, Value.slice none (0) (0)), (7, Value.int .i64 (0)), (8, Value.pointer (some ⟨g4, 0, none⟩)), (13, Value.bool (decide (¬ (((cFollows 0 0 d1).1) = 0 ∧ ((cFollows 0 0 d1).2) = 0)))), (19, Value.bool (decide (¬ d2.1 = 2))), (28, Value.bool (decide (d2.2.1 < d0))), (33, Value.bool (decide (d0 < d2.2.1))), (38, Value.bool (decide (((d1.length + 1 : Nat) : Int) < d2.2.2.2.2.2.1))), (45, Value.bool (decide (¬ (fitsM d1 d2))))] [(116, out_m), (105, mone g4 (.cells [Value.int .i64 ((cFollows 0 0 d1).1), Value.int .i64 ((cFollows 0 0 d1).2)].toArray 57 (0, 0))), (102, mone g1 (.cells [Value.int .i64 (d2.1), Value.int .i64 (d2.2.1), Value.int .u8 (d2.2.2.1), Value.int .i64 (d2.2.2.2.1), Value.slice p2_A4 (d2.2.2.2.2.1.length) (p2_c4), Value.int .i64 (d2.2.2.2.2.2.1), Value.int .i64 (d2.2.2.2.2.2.2.1), Value.slice p2_A7 (d2.2.2.2.2.2.2.2.length) (p2_c7)].toArray 72 (0, 0))), (0, wm W)]
                have l_out : out.length ≤ out_c := by obtain ⟨_, _, he, hl, _⟩ := h_out.slice; simp only [Value.slice.injEq] at he; omega
                have k_out : out_c ≤ 9223372036854775807 := by obtain ⟨_, _, he, _, hl⟩ := h_out.slice; simp only [Value.slice.injEq, maxLen] at he hl; omega
                have hlo : out.length ≤ 4 := by have h4 := (lCheck_ship (m := d2) (by omega) (by omega)).2.2.2.1; have := List.length_filter_le (fun c : DCommit => decide ((d1.length : Int) < c.2.1)) (d2.2.2.2.2.2.2.2.take k); rw [ho]; simp only [List.length_take] at this; omega
                refine VC.seq ?_
                refine VC.rs ?_
                refine VO.mv ?_
                refine VO.y rfl (.fa rfl tst72 rfl) ?_
                refine VO.y rfl (.ld1 102 rfl tk61 rfl (cellsAt_one rfl rfl)) ?_
                refine VO.y rfl (.lenS rfl tsl61) ?_
                refine VO.y rfl (.lss rfl rfl) ?_
                refine VO.k16 0 1 2 5 6 7 8 9 10 13 19 28 33 38 45 54 ?_
                refine VC.cond rfl (fun hc17 => ?_) (fun hc17 => ?_)
                · -- FFFFFFFT
                  refine VC.skip ?_
                  refine outN ?_
                  refine VC.seq ?_
                  refine VC.block ?_
                  refine VC.rs ?_
                  refine VO.y rfl (.fa rfl tst72 rfl) ?_
                  refine VO.y rfl (.ld1 102 rfl tk61 rfl (cellsAt_one rfl rfl)) ?_
                  refine VO.mv ?_
                  obtain ⟨x18, hx18⟩ : ∃ z_, (d2.2.2.2.2.2.2.2)[k]? = some z_ := ⟨_, List.getElem?_eq_getElem (by exact fin2_take18_ok)⟩
                  obtain ⟨gg18, oo18, ec18, ea18, hce18, hre18⟩ := p2_7.elem hx18
                  cases ea18
                  obtain ⟨q18_A2, q18_c2, rfl, q18_0, q18_1, q18_2⟩ := open_Commit (x0 := x18.1) (x1 := x18.2.1) (x2 := x18.2.2) hre18
                  simp only [inK] at q18_0
                  simp only [inK] at q18_1
                  have q18_r2 := Rd.room q18_2
                  refine VO.y rfl (.ixI k rfl rfl tsl61 rfl (by exact fin2_take18_ok)) ?_
                  refine VO.y rfl (.fa rfl tst52 rfl) ?_
                  refine VO.y rfl (.ld1 0 rfl tk3 rfl (hce18.at1 (j := 1) rfl)) ?_
                  refine VO.mv ?_
                  refine VO.y rfl (.lenS rfl tsl61) ?_
                  refine VO.y rfl (.gtr rfl rfl) ?_
                  refine VO.kp [116, 105, 102, 0] [(116, out_m), (105, mone g4 (.cells [Value.int .i64 ((cFollows 0 0 d1).1), Value.int .i64 ((cFollows 0 0 d1).2)].toArray 57 (0, 0))), (102, mone g1 (.cells [Value.int .i64 (d2.1), Value.int .i64 (d2.2.1), Value.int .u8 (d2.2.2.1), Value.int .i64 (d2.2.2.2.1), Value.slice p2_A4 (d2.2.2.2.2.1.length) (p2_c4), Value.int .i64 (d2.2.2.2.2.2.1), Value.int .i64 (d2.2.2.2.2.2.2.1), Value.slice (some ⟨gg18, oo18, none⟩) (d2.2.2.2.2.2.2.2.length) (p2_c7)].toArray 72 (0, 0))), (0, wm W)] ?_
                  refine VO.k17 0 1 2 5 6 7 8 9 10 13 19 28 33 38 45 54 65 ?_
                  refine VC.cond rfl (fun hc19 => ?_) (fun hc19 => ?_)
                  · -- FFFFFFFTT
                    refine VC.reg ?_
                    refine VO.mv ?_
                    refine VO.y rfl (.fa rfl tst72 rfl) ?_
                    refine VO.y rfl (.ld1 102 rfl tk61 rfl (cellsAt_one rfl rfl)) ?_
                    refine VO.mv ?_
                    refine VO.y rfl (.ixI k rfl rfl tsl61 rfl (by exact fin2_take18_ok)) ?_
                    refine VO.y rfl (.ldA 0 rfl tk52 rfl hce18) ?_
                    refine VO.callN 121 rfl fnOk116 rfl (fun W hW => c4Copy_ok W (Rd.mono hre18 (hW.at (i := 0) rfl)) (by exact fin2_take18_ok)) (fun v21 m21 hv21 => ?_)
                    obtain ⟨s21_0, rfl, f21_0⟩ := hv21
                    obtain ⟨q21_0_A2, q21_0_c2, q21_0_n2, rfl, q21_0_S, q21_0_0, q21_0_1, q21_0_2⟩ := openO_Commit (x0 := x18.1) (x1 := x18.2.1) (x2 := x18.2.2) f21_0
                    simp only [inK] at q21_0_0
                    simp only [inK] at q21_0_1
                    have q21_0_r2 := q21_0_2.rm
                    refine VO.inv _ (fun _ h => h.parts (i := 121) rfl q21_0_S [122]) ?_
                    refine VO.bsl (cs := [Value.int .i64 (x18.1), Value.int .i64 (x18.2.1), Value.slice q21_0_A2 (x18.2.2.length) (q21_0_c2)]) 124 rfl rfl tsl61 tz52 rfl rfl (fun g23 => ?_)
                    refine VO.appO (e := TCommit) 116 122 124 rfl rfl rfl tsl61 tz52 rfl rfl rfl rfl h_out (show Ow TCommit _ _ x18 from (mkO_Commit x18.1 x18.2.1 x18.2.2 (Seps.one (mle_refl _)) (by simp only [inK]; (exact fin2_take18_ok)) (by simp only [inK]; (exact fin2_take18_ok)) (OwnL.ow (Ow.ownl q21_0_2 rfl mnil) rfl))) Try.underlying61 (cellsAt_one rfl rfl) (by simp only [maxLen]; (exact fin2_take18_ok)) (by exact fin2_take18_ok) (by decide) (fun v25 m25 ho25 => ?_)
                    obtain ⟨A25, c25, rfl, l25, k25⟩ := ho25.slice
                    simp only [maxLen] at k25
                    refine VO.as ?_
                    refine VO.k17 0 1 2 5 6 7 8 9 10 13 19 28 33 38 45 54 65 ?_
                    refine outBN ?_
                    refine outN ?_
                    refine VC.reg ?_
                    refine VO.mv ?_
                    refine VO.y rfl (.add (c := ((k + 1 : Nat) : Int)) rfl rfl (by omega) ⟨by exact fin2_take18_ok, by exact fin2_take18_ok⟩) ?_
                    refine VO.as ?_
                    refine VO.k17 0 1 2 5 6 7 8 9 10 13 19 28 33 38 45 54 65 ?_
                    exact outN ⟨⟨k + 1, out ++ [x18], A25, c25, m25⟩, ⟨by omega, by first | (rw [ho, filter_yes ‹d2.2.2.2.2.2.2.2[k]? = some _› (decide_eq_true (by omega))]) | (rw [ho, filter_no ‹d2.2.2.2.2.2.2.2[k]? = some _› (decide_eq_false (by omega))]), ho25⟩, by exact fin2_take18_ok, ⟨⟨rfl, rfl, rfl, rfl, rfl, rfl, rfl, rfl, rfl, rfl, rfl, rfl, rfl, rfl, rfl, trivial⟩, fun _ h => Inv.sub h [116, 105, 102, 0]⟩⟩
                  · -- FFFFFFFTF
                    refine VC.skip ?_
                    refine outBN ?_
                    refine outN ?_
                    refine VC.reg ?_
                    refine VO.mv ?_
                    refine VO.y rfl (.add (c := ((k + 1 : Nat) : Int)) rfl rfl (by omega) ⟨by exact fin2_take18_ok, by exact fin2_take18_ok⟩) ?_
                    refine VO.as ?_
                    refine VO.k17 0 1 2 5 6 7 8 9 10 13 19 28 33 38 45 54 65 ?_
                    exact outN ⟨⟨k + 1, out, out_A, out_c, out_m⟩, ⟨by omega, by first | (rw [ho, filter_yes ‹d2.2.2.2.2.2.2.2[k]? = some _› (decide_eq_true (by omega))]) | (rw [ho, filter_no ‹d2.2.2.2.2.2.2.2[k]? = some _› (decide_eq_false (by omega))]), h_out⟩, by exact fin2_take18_ok, ⟨⟨rfl, rfl, rfl, rfl, rfl, rfl, rfl, rfl, rfl, rfl, rfl, rfl, rfl, rfl, rfl, trivial⟩, fun _ h => Inv.sub h [116, 105, 102, 0]⟩⟩
                · -- FFFFFFFF
                  refine VC.exit ?_
                  refine outE ?_
                  refine outE ?_
                  refine outBB ?_
                  refine outN ?_
                  refine VC.rs ?_
                  refine VO.mv ?_
                  refine VO.as ?_
                  refine VO.as ?_
                  refine VO.kp [116, 105, 102, 0] [(116, out_m), (105, mone g4 (.cells [Value.int .i64 ((cFollows 0 0 d1).1), Value.int .i64 ((cFollows 0 0 d1).2)].toArray 57 (0, 0))), (102, mone g1 (.cells [Value.int .i64 (d2.1), Value.int .i64 (d2.2.1), Value.int .u8 (d2.2.2.1), Value.int .i64 (d2.2.2.2.1), Value.slice p2_A4 (d2.2.2.2.2.1.length) (p2_c4), Value.int .i64 (d2.2.2.2.2.2.1), Value.int .i64 (d2.2.2.2.2.2.2.1), Value.slice p2_A7 (d2.2.2.2.2.2.2.2.length) (p2_c7)].toArray 72 (0, 0))), (0, wm W)] ?_
                  refine VO.k16 0 1 2 5 6 7 8 9 10 13 19 28 33 38 45 54 ?_
                  refine VC.ret ?_
                  refine ⟨_, _, res_run (rs := [.tmp 6, .tmp 7]) rfl (.tmp rfl (.tmp rfl .nil)), fun W_ hI => out_of (l := [out_m]) hI [116] rfl rfl (mle_refl _) (fun hS_ => ?_)⟩
                  dsimp only [packV]
                  have he0 : ((takeOf d0 d1 d2).1 : Ty.Den (.sl TCommit)) = out := by first | rfl | (exact fin0_take18_ok)
                  refine ⟨Value.slice out_A (out.length) (out_c), ?_, ?_⟩
                  rotate_left
                  · rw [he0]; exact (Ow.up h_out (hS_.1 _ (.head _)))
                  all_goals (first | rfl | (exact fin1_take18_ok))
theorem fin0_known18_ok {P : Prop} (h : P := by first | (rw [known_check (by assumption)] <;> rfl) | (rw [known_stale (by assumption) (by omega)] <;> rfl) | (rw [known_later (by assumption) (by omega) (by omega)] <;> rfl) | (rw [known_yes18 (by assumption) (by omega) (by omega) (by omega)] <;> rfl) | (rw [known_no (by assumption) (by omega) (by omega) (by omega)] <;> rfl)) : P := h
theorem known18_ok (W : World) (d0 : Int) (h0 : inK .i64 d0) (d1 : Int) (h1 : inK .i64 d1) {v2 : List Value} {d2 : DMessage} (h2 : Rd TMessage (wm W) v2 d2) : CallR Try.prog 85 [.int .i64 d0, .int .i64 d1, .agg v2.toArray] W (mnil) (fun v m' => v = .tuple #[.int .i64 ((knownOf d0 d1 d2).1), .bool (decide ((knownOf d0 d1 d2).2.1 = true)), .int .i64 ((knownOf d0 d1 d2).2.2)]) := by
  have h0' := h0; simp only [inK] at h0'
  have h1' := h1; simp only [inK] at h1'
  obtain ⟨p2_A4, p2_c4, p2_A7, p2_c7, rfl, p2_0, p2_1, p2_2, p2_3, p2_4, p2_5, p2_6, p2_7⟩ := open_Message (x0 := d2.1) (x1 := d2.2.1) (x2 := d2.2.2.1) (x3 := d2.2.2.2.1) (x4 := d2.2.2.2.2.1) (x5 := d2.2.2.2.2.2.1) (x6 := d2.2.2.2.2.2.2.1) (x7 := d2.2.2.2.2.2.2.2) h2
  simp only [inK] at p2_0
  simp only [inK] at p2_1
  simp only [inK] at p2_2
  simp only [inK] at p2_3
  have p2_r4 := Rd.room p2_4
  simp only [inK] at p2_5
  simp only [inK] at p2_6
  have p2_r7 := Rd.room p2_7
  refine CallR.ofA (n := 43) Try.func85 rfl rfl rfl ?_
  refine VC.rs ?_
  refine VO.box (cs := [Value.int .i64 (d2.1), Value.int .i64 (d2.2.1), Value.int .u8 (d2.2.2.1), Value.int .i64 (d2.2.2.2.1), Value.slice p2_A4 (d2.2.2.2.2.1.length) (p2_c4), Value.int .i64 (d2.2.2.2.2.2.1), Value.int .i64 (d2.2.2.2.2.2.2.1), Value.slice p2_A7 (d2.2.2.2.2.2.2.2.length) (p2_c7)]) 102 rfl rfl rfl (fun g1 => ?_)
  refine VO.as ?_
  refine VO.as ?_
  refine VO.as ?_
  refine VO.k7 0 1 2 5 6 7 8 ?_
  refine VC.seq ?_
  refine VC.block ?_
  refine VC.rs ?_
  refine VO.y rfl (.ldA 102 rfl tk72 rfl (cellsAt_one rfl rfl)) ?_
  refine VO.callN 103 rfl fnOk121 rfl (fun W hW => check11_ok W (Rd.mono h2 (hW.at (i := 0) rfl))) (fun v3 m3 hv3 => ?_)
  subst hv3
  have hfa4 := lCheck_range d2
  refine VO.y rfl (.neq rfl rfl) ?_
  refine VO.as ?_
  refine VO.k8 0 1 2 5 6 7 8 9 ?_
  refine VC.cond rfl (fun hc5 => ?_) (fun hc5 => ?_)
  · -- T
    refine VC.rs ?_
    refine VO.as ?_
    refine VO.as ?_
    refine VO.as ?_
    refine VO.kp [102, 0] [(102, mone g1 (.cells [Value.int .i64 (d2.1), Value.int .i64 (d2.2.1), Value.int .u8 (d2.2.2.1), Value.int .i64 (d2.2.2.2.1), Value.slice p2_A4 (d2.2.2.2.2.1.length) (p2_c4), Value.int .i64 (d2.2.2.2.2.2.1), Value.int .i64 (d2.2.2.2.2.2.2.1), Value.slice p2_A7 (d2.2.2.2.2.2.2.2.length) (p2_c7)].toArray 72 (0, 0))), (0, wm W)] ?_
    refine VO.k8 0 1 2 5 6 7 8 9 ?_
    refine VC.ret ?_
    refine outBR ?_
    refine outR ?_
    refine ⟨_, _, res_run (rs := [.tmp 6, .tmp 7, .tmp 8]) rfl (.tmp rfl (.tmp rfl (.tmp rfl .nil))), fun W_ hI => out_of (l := []) hI [] rfl rfl (mle_refl _) (fun hS_ => ?_)⟩
    dsimp only [packV]
    all_goals (first | rfl | (exact fin0_known18_ok))
  · -- F
    refine VC.rs ?_
    refine VO.y rfl (.fa rfl tst72 rfl) ?_
    refine VO.y rfl (.ld1 102 rfl tk3 rfl (cellsAt_one rfl rfl)) ?_
    refine VO.mv ?_
    refine VO.y rfl (.lss rfl rfl) ?_
    refine VO.as ?_
    refine VO.kp [102, 0] [(102, mone g1 (.cells [Value.int .i64 (d2.1), Value.int .i64 (d2.2.1), Value.int .u8 (d2.2.2.1), Value.int .i64 (d2.2.2.2.1), Value.slice p2_A4 (d2.2.2.2.2.1.length) (p2_c4), Value.int .i64 (d2.2.2.2.2.2.1), Value.int .i64 (d2.2.2.2.2.2.2.1), Value.slice p2_A7 (d2.2.2.2.2.2.2.2.length) (p2_c7)].toArray 72 (0, 0))), (0, wm W)] ?_
    refine VO.k9 0 1 2 5 6 7 8 9 13 ?_
    refine VC.cond rfl (fun hc6 => ?_) (fun hc6 => ?_)
    · -- FT
      refine VC.rs ?_
      refine VO.as ?_
      refine VO.as ?_
      refine VO.as ?_
      refine VO.k9 0 1 2 5 6 7 8 9 13 ?_
      refine VC.ret ?_
      refine outBR ?_
      refine outR ?_
      refine ⟨_, _, res_run (rs := [.tmp 6, .tmp 7, .tmp 8]) rfl (.tmp rfl (.tmp rfl (.tmp rfl .nil))), fun W_ hI => out_of (l := []) hI [] rfl rfl (mle_refl _) (fun hS_ => ?_)⟩
      dsimp only [packV]
      all_goals (first | rfl | (exact fin0_known18_ok))
    · -- FF
      refine VC.rs ?_
      refine VO.y rfl (.fa rfl tst72 rfl) ?_
      refine VO.y rfl (.ld1 102 rfl tk3 rfl (cellsAt_one rfl rfl)) ?_
      refine VO.mv ?_
      refine VO.y rfl (.gtr rfl rfl) ?_
      refine VO.as ?_
      refine VO.k10 0 1 2 5 6 7 8 9 13 18 ?_
      refine VC.cond rfl (fun hc7 => ?_) (fun hc7 => ?_)
      · -- FFT
        refine VC.rs ?_
        refine VO.as ?_
        refine VO.as ?_
        refine VO.as ?_
        refine VO.k10 0 1 2 5 6 7 8 9 13 18 ?_
        refine VC.ret ?_
        refine outBR ?_
        refine outR ?_
        refine ⟨_, _, res_run (rs := [.tmp 6, .tmp 7, .tmp 8]) rfl (.tmp rfl (.tmp rfl (.tmp rfl .nil))), fun W_ hI => out_of (l := []) hI [] rfl rfl (mle_refl _) (fun hS_ => ?_)⟩
        dsimp only [packV]
        all_goals (first | rfl | (exact fin0_known18_ok))
      · -- FFF
        refine VC.rs ?_
        refine VO.y rfl (.fa rfl tst72 rfl) ?_
        refine VO.y rfl (.ld1 102 rfl tk3 rfl (cellsAt_one rfl rfl)) ?_
        refine VO.y rfl (.eql rfl rfl) ?_
        refine VO.mv ?_
        refine VO.dec (t := 27) rfl (fun hc8 => ?_) (fun hc8 => ?_)
        · -- FFFT
          refine VO.gN ?_
          refine VO.gN ?_
          refine VO.gN ?_
          refine VO.gN ?_
          refine VO.gn rfl (.inr ⟨_, rfl, rfl⟩) ?_
          refine VO.gn rfl (.inr ⟨_, rfl, rfl⟩) ?_
          refine VO.gn rfl (.inr ⟨_, rfl, rfl⟩) ?_
          refine VO.gN ?_
          refine VO.y rfl (.pT rfl rfl) ?_
          refine VO.as ?_
          refine VO.k11 0 1 2 5 6 7 8 9 13 18 23 ?_
          refine VC.condT rfl ?_
          refine VC.rs ?_
          refine VO.mv ?_
          refine VO.y rfl (.fa rfl tst72 rfl) ?_
          refine VO.y rfl (.ld1 102 rfl tk3 rfl (cellsAt_one rfl rfl)) ?_
          refine VO.y rfl (.maxM rfl rfl) ?_
          refine VO.as ?_
          refine VO.as ?_
          refine VO.as ?_
          refine VO.kp [102, 0] [(102, mone g1 (.cells [Value.int .i64 (d2.1), Value.int .i64 (d2.2.1), Value.int .u8 (d2.2.2.1), Value.int .i64 (d2.2.2.2.1), Value.slice p2_A4 (d2.2.2.2.2.1.length) (p2_c4), Value.int .i64 (d2.2.2.2.2.2.1), Value.int .i64 (d2.2.2.2.2.2.2.1), Value.slice p2_A7 (d2.2.2.2.2.2.2.2.length) (p2_c7)].toArray 72 (0, 0))), (0, wm W)] ?_
          refine VO.k11 0 1 2 5 6 7 8 9 13 18 23 ?_
          refine VC.ret ?_
          refine outBR ?_
          refine outR ?_
          refine ⟨_, _, res_run (rs := [.tmp 6, .tmp 7, .tmp 8]) rfl (.tmp rfl (.tmp rfl (.tmp rfl .nil))), fun W_ hI => out_of (l := []) hI [] rfl rfl (mle_refl _) (fun hS_ => ?_)⟩
          dsimp only [packV]
          all_goals (first | rfl | (exact fin0_known18_ok))
        · -- FFFF
          refine VO.gy rfl ⟨_, rfl, rfl⟩ (.fa rfl tst72 rfl) ?_
          refine VO.gy rfl ⟨_, rfl, rfl⟩ (.ld1 102 rfl tk3 rfl (cellsAt_one rfl rfl)) ?_
          refine VO.gy rfl ⟨_, rfl, rfl⟩ (.eql rfl rfl) ?_
          refine VO.gy rfl ⟨_, rfl, rfl⟩ (.mv rfl) ?_
          refine VO.dec (t := 31) rfl (fun hc9 => ?_) (fun hc9 => ?_)
          · -- FFFFT
            refine VO.gy rfl ⟨_, rfl, rfl⟩ (.fa rfl tst72 rfl) ?_
            refine VO.gy rfl ⟨_, rfl, rfl⟩ (.ld1 102 rfl tk69 rfl (cellsAt_one rfl rfl)) ?_
            refine VO.gy rfl ⟨_, rfl, rfl⟩ (.eql rfl rfl) ?_
            refine VO.gy rfl ⟨_, rfl, rfl⟩ (.pT rfl rfl) ?_
            refine VO.y rfl (.pF rfl rfl) ?_
            refine VO.as ?_
            refine VO.k11 0 1 2 5 6 7 8 9 13 18 23 ?_
            refine VC.cond rfl (fun hc10 => ?_) (fun hc10 => ?_)
            · -- FFFFTT
              refine VC.rs ?_
              refine VO.mv ?_
              refine VO.y rfl (.fa rfl tst72 rfl) ?_
              refine VO.y rfl (.ld1 102 rfl tk3 rfl (cellsAt_one rfl rfl)) ?_
              refine VO.y rfl (.maxM rfl rfl) ?_
              refine VO.as ?_
              refine VO.as ?_
              refine VO.as ?_
              refine VO.kp [102, 0] [(102, mone g1 (.cells [Value.int .i64 (d2.1), Value.int .i64 (d2.2.1), Value.int .u8 (d2.2.2.1), Value.int .i64 (d2.2.2.2.1), Value.slice p2_A4 (d2.2.2.2.2.1.length) (p2_c4), Value.int .i64 (d2.2.2.2.2.2.1), Value.int .i64 (d2.2.2.2.2.2.2.1), Value.slice p2_A7 (d2.2.2.2.2.2.2.2.length) (p2_c7)].toArray 72 (0, 0))), (0, wm W)] ?_
              refine VO.k11 0 1 2 5 6 7 8 9 13 18 23 ?_
              refine VC.ret ?_
              refine outBR ?_
              refine outR ?_
              refine ⟨_, _, res_run (rs := [.tmp 6, .tmp 7, .tmp 8]) rfl (.tmp rfl (.tmp rfl (.tmp rfl .nil))), fun W_ hI => out_of (l := []) hI [] rfl rfl (mle_refl _) (fun hS_ => ?_)⟩
              dsimp only [packV]
              all_goals (first | rfl | (exact fin0_known18_ok))
            · -- FFFFTF
              refine VC.skip ?_
              refine outBN ?_
              refine outN ?_
              refine VC.rs ?_
              refine VO.mv ?_
              refine VO.y rfl (.maxM rfl rfl) ?_
              refine VO.as ?_
              refine VO.as ?_
              refine VO.as ?_
              refine VO.kp [102, 0] [(102, mone g1 (.cells [Value.int .i64 (d2.1), Value.int .i64 (d2.2.1), Value.int .u8 (d2.2.2.1), Value.int .i64 (d2.2.2.2.1), Value.slice p2_A4 (d2.2.2.2.2.1.length) (p2_c4), Value.int .i64 (d2.2.2.2.2.2.1), Value.int .i64 (d2.2.2.2.2.2.2.1), Value.slice p2_A7 (d2.2.2.2.2.2.2.2.length) (p2_c7)].toArray 72 (0, 0))), (0, wm W)] ?_
              refine VO.k11 0 1 2 5 6 7 8 9 13 18 23 ?_
              refine VC.ret ?_
              refine ⟨_, _, res_run (rs := [.tmp 6, .tmp 7, .tmp 8]) rfl (.tmp rfl (.tmp rfl (.tmp rfl .nil))), fun W_ hI => out_of (l := []) hI [] rfl rfl (mle_refl _) (fun hS_ => ?_)⟩
              dsimp only [packV]
              all_goals (first | rfl | (exact fin0_known18_ok))
          · -- FFFFF
            refine VO.gN ?_
            refine VO.gN ?_
            refine VO.gN ?_
            refine VO.gy rfl ⟨_, rfl, rfl⟩ (.pF rfl rfl) ?_
            refine VO.y rfl (.pF rfl rfl) ?_
            refine VO.as ?_
            refine VO.k11 0 1 2 5 6 7 8 9 13 18 23 ?_
            refine VC.condF rfl ?_
            refine VC.skip ?_
            refine outBN ?_
            refine outN ?_
            refine VC.rs ?_
            refine VO.mv ?_
            refine VO.y rfl (.maxM rfl rfl) ?_
            refine VO.as ?_
            refine VO.as ?_
            refine VO.as ?_
            refine VO.kp [102, 0] [(102, mone g1 (.cells [Value.int .i64 (d2.1), Value.int .i64 (d2.2.1), Value.int .u8 (d2.2.2.1), Value.int .i64 (d2.2.2.2.1), Value.slice p2_A4 (d2.2.2.2.2.1.length) (p2_c4), Value.int .i64 (d2.2.2.2.2.2.1), Value.int .i64 (d2.2.2.2.2.2.2.1), Value.slice p2_A7 (d2.2.2.2.2.2.2.2.length) (p2_c7)].toArray 72 (0, 0))), (0, wm W)] ?_
            refine VO.k11 0 1 2 5 6 7 8 9 13 18 23 ?_
            refine VC.ret ?_
            refine ⟨_, _, res_run (rs := [.tmp 6, .tmp 7, .tmp 8]) rfl (.tmp rfl (.tmp rfl (.tmp rfl .nil))), fun W_ hI => out_of (l := []) hI [] rfl rfl (mle_refl _) (fun hS_ => ?_)⟩
            dsimp only [packV]
            all_goals (first | rfl | (exact fin0_known18_ok))
theorem CopyStarts_ok (W : World) {v0 : Value} {d0 : List DStart} (h0 : Rd (.sl TStart) (wm W) [v0] d0) (e0 : d0.length ≤ 8796093020000) : CallR Try.prog 142 [v0] W (mnil) (fun v m' => ∃ (s0 : Value), v = s0 ∧ Ow (.sl TStart) m' [s0] (d0)) := by
  obtain ⟨A0, c0, rfl, l0, k0⟩ := h0.slice
  simp only [maxLen] at k0
  refine CallR.ofA (n := 6) Try.func142 rfl rfl rfl ?_
  refine VC.rs ?_
  refine VO.as ?_
  refine VO.k2 0 2 ?_
  refine VC.rs ?_
  refine VO.bsl (cs := []) 102 rfl rfl tsl70 tz90 rfl rfl (fun g1 => ?_)
  refine VO.mv ?_
  have ho4 : OwnL TStart (mone g1 (.cells [].toArray 90 (0, 0))) mnil (Value.slice (some ⟨g1, 0, none⟩) (0) (0)) [] := OwnL.lit 0 All2c.nil rfl rfl
  obtain ⟨mo3, cs3, hM3, hA3, hC3⟩ := ho4
  obtain ⟨all3, hS3, hR3⟩ := Rd.srcI (P := Try.prog) (h0) Try.underlying70
  refine VO.app 102 rfl rfl rfl tsl70 tz90 rfl rfl hM3 hA3 (hS3 _ 0 rfl) hR3.nice bdm bd (by decide) (fun v3 m3 hN3 => ?_)
  have ho3 : OwnL TStart m3 mnil v3 (d0) := OwnL.more hC3 hN3 (All2c.mono hR3 fun _ _ h => Rd.flat rfl h _)
  obtain ⟨A3, c3, rfl, l3, k3⟩ := ho3.slice
  simp only [maxLen] at k3
  refine VO.as ?_
  refine VO.k2 0 2 ?_
  refine VC.ret ?_
  refine ⟨_, _, res_run (rs := [.tmp 2]) rfl (.tmp rfl .nil), fun W_ hI => out_of (l := [m3]) hI [102] rfl rfl (mle_refl _) (fun hS_ => ?_)⟩
  dsimp only [packV]
  have he0 : (d0 : Ty.Den (.sl TStart)) = d0 := by first | rfl | (simp [*]; done)
  refine ⟨Value.slice A3 ((d0).length) (c3), ?_, ?_⟩
  rotate_left
  · rw [he0]; exact (Ow.up (OwnL.ow ho3 rfl) (hS_.1 _ (.head _)))
  all_goals (first | rfl | (simp [*]; done))
theorem LentStarts_ok (W : World) {v0 : Value} {d0 : List DStart} (h0 : Rd (.sl TStart) (wm W) [v0] d0) (e0 : d0.length ≤ 8796093020000) : CallR Try.prog 120 [v0] W (mnil) (fun v m' => ∃ (s0 : Value), v = s0 ∧ Ow (.sl TStart) m' [s0] (d0 ++ spareS)) := by
  obtain ⟨A0, c0, rfl, l0, k0⟩ := h0.slice
  simp only [maxLen] at k0
  refine CallR.ofA (n := 17) Try.func120 rfl rfl rfl ?_
  refine VC.rs ?_
  refine VO.as ?_
  refine VO.k2 0 2 ?_
  refine VC.rs ?_
  refine VO.mv ?_
  refine VO.callN 101 rfl fnOk142 rfl (fun W hW => CopyStarts_ok W (Rd.mono h0 (hW.at (i := 0) rfl)) bd) (fun v1 m1 hv1 => ?_)
  obtain ⟨s1_0, rfl, f1_0⟩ := hv1
  obtain ⟨A1_0, c1_0, eq1_0, l1_0, k1_0⟩ := f1_0.slice
  subst eq1_0
  simp only [maxLen] at k1_0
  refine VO.as ?_
  refine VO.k3 0 2 3 ?_
  refine VC.seq ?_
  refine VC.rs ?_
  refine VO.as ?_
  refine VO.kp [101, 0] [(101, m1), (0, wm W)] ?_
  refine VO.k4 0 2 3 4 ?_
  refine VC.block ?_
  refine VC.loop (G := Nat × (List DStart) × (Option Addr) × Nat × Mem) (fun g => [(3, Value.slice (g.2.2.1) ((g.2.1).length) ((g.2.2.2.1))), (4, Value.int .i64 ((((g.1) : Nat) : Int))), (0, Value.slice A0 (d0.length) (c0)), (2, Value.slice none (0) (0))]) (fun g => [(101, (g.2.2.2.2)), (0, wm W)]) (fun g => ((g.1) ≤ 3) ∧ ((g.2.1) = d0 ++ spareS.take (g.1)) ∧ (OwnL TStart (g.2.2.2.2) mnil (.slice (g.2.2.1) (g.2.1).length (g.2.2.2.1)) (g.2.1))) (fun g => 3 - (g.1)) (0, d0, A1_0, c1_0, m1) (⟨by omega, by simp, (Ow.ownl f1_0 rfl mnil)⟩) ⟨⟨rfl, rfl, rfl, rfl, trivial⟩, fun _ h => h.sub [101, 0]⟩ ?_
  rintro ⟨k, out, out_A, out_c, out_m⟩ ⟨hk, ho, h_out⟩
  replace hk : k ≤ 3 := hk
  replace ho : out = d0 ++ spareS.take k := ho
  replace h_out : OwnL TStart out_m mnil (.slice out_A out.length out_c) out := h_out
  show VC _ _ _ _ _ [(3, Value.slice out_A (out.length) (out_c)), (4, Value.int .i64 (((k : Nat) : Int))), (0, Value.slice A0 (d0.length) (c0)), (2, Value.slice none (0) (0))] [(101, out_m), (0, wm W)]
  have l_out : out.length ≤ out_c := by obtain ⟨_, _, he, hl, _⟩ := h_out.slice; simp only [Value.slice.injEq] at he; omega
  have k_out : out_c ≤ 9223372036854775807 := by obtain ⟨_, _, he, _, hl⟩ := h_out.slice; simp only [Value.slice.injEq, maxLen] at he hl; omega
  have hlo : out.length ≤ d0.length + 3 := by rw [ho]; simp [spareS]; omega
  refine VC.seq ?_
  refine VC.rs ?_
  refine VO.mv ?_
  refine VO.y rfl (.lss rfl rfl) ?_
  refine VO.k5 0 2 3 4 8 ?_
  refine VC.cond rfl (fun hc2 => ?_) (fun hc2 => ?_)
  · -- T
    refine VC.skip ?_
    refine outN ?_
    refine VC.seq ?_
    refine VC.block ?_
    refine VC.reg ?_
    refine VO.mv ?_
    refine VO.mv ?_
    refine VO.y rfl (.bst (cs := [Value.int .i64 ((-5)), Value.int .i64 (((k : Nat) : Int))]) rfl tst90 tz90 rfl) ?_
    refine VO.bsl (cs := [Value.int .i64 ((-5)), Value.int .i64 (((k : Nat) : Int))]) 104 rfl rfl tsl70 tz90 rfl rfl (fun g3 => ?_)
    obtain ⟨mo5, cs5, hM5, hA5, hC5⟩ := h_out
    refine VO.app 101 rfl rfl rfl tsl70 tz90 rfl rfl hM5 hA5 (.row 104 _ _ _ 1 1 _ _ Try.underlying70 rfl (cellsAt_one rfl rfl)) (by simp [Value.oneCell']) bdm bd (by decide) (fun v5 m5 hN5 => ?_)
    have ho5 : OwnL TStart m5 mnil v5 (out ++ [((-5), ((k : Nat) : Int))]) := OwnL.one hC5 hN5 (mk_Start (m := _) (-5) ((k : Nat) : Int) bdk bdk)
    obtain ⟨A5, c5, rfl, l5, k5⟩ := ho5.slice
    simp only [maxLen] at k5
    refine VO.as ?_
    refine VO.k5 0 2 3 4 8 ?_
    refine outBN ?_
    refine outN ?_
    refine VC.reg ?_
    refine VO.mv ?_
    refine VO.y rfl (.add (c := ((k + 1 : Nat) : Int)) rfl rfl (by omega) ⟨bd, bd⟩) ?_
    refine VO.as ?_
    refine VO.kp [101, 0] [(101, m5), (0, wm W)] ?_
    refine VO.k5 0 2 3 4 8 ?_
    exact outN ⟨⟨k + 1, out ++ [((-5), ((k : Nat) : Int))], A5, c5, m5⟩, ⟨by omega, by exact spareS_next ho (by omega), ho5⟩, bd, ⟨⟨rfl, rfl, rfl, rfl, trivial⟩, fun _ h => Inv.sub h [101, 0]⟩⟩
  · -- F
    refine VC.exit ?_
    refine outE ?_
    refine outE ?_
    refine outBB ?_
    refine outN ?_
    refine VC.rs ?_
    refine VO.mv ?_
    refine VO.as ?_
    refine VO.k5 0 2 3 4 8 ?_
    refine VC.ret ?_
    refine ⟨_, _, res_run (rs := [.tmp 2]) rfl (.tmp rfl .nil), fun W_ hI => out_of (l := [out_m]) hI [101] rfl rfl (mle_refl _) (fun hS_ => ?_)⟩
    dsimp only [packV]
    have he0 : (d0 ++ spareS : Ty.Den (.sl TStart)) = out := by first | rfl | (have : k = 3 := (by omega); subst this; exact ho.symm)
    refine ⟨Value.slice out_A (out.length) (out_c), ?_, ?_⟩
    rotate_left
    · rw [he0]; exact (Ow.up (OwnL.ow h_out rfl) (hS_.1 _ (.head _)))
    all_goals (first | rfl | (simp [*]; done))
theorem KeptStarts_ok (W : World) {v0 : Value} {d0 : List DStart} (h0 : Rd (.sl TStart) (wm W) [v0] d0) {v1 : Value} {d1 : List DStart} (h1 : Rd (.sl TStart) (wm W) [v1] d1) (e0 : d1.length ≤ 8796093020000) : CallR Try.prog 123 [v0, v1] W (mnil) (fun v m' => v = .bool (decide (d0 = d1 ++ spareS))) := by
  obtain ⟨A0, c0, rfl, l0, k0⟩ := h0.slice
  simp only [maxLen] at k0
  obtain ⟨A1, c1, rfl, l1, k1⟩ := h1.slice
  simp only [maxLen] at k1
  refine CallR.ofA (n := 9) Try.func123 rfl rfl rfl ?_
  refine VC.rs ?_
  refine VO.as ?_
  refine VO.k3 0 1 4 ?_
  refine VC.rs ?_
  refine VO.mv ?_
  refine VO.mv ?_
  refine VO.callN 101 rfl fnOk120 rfl (fun W hW => LentStarts_ok W (Rd.mono h1 (hW.at (i := 0) rfl)) bd) (fun v1 m1 hv1 => ?_)
  obtain ⟨s1_0, rfl, f1_0⟩ := hv1
  obtain ⟨A1_0, c1_0, eq1_0, l1_0, k1_0⟩ := f1_0.slice
  subst eq1_0
  simp only [maxLen] at k1_0
  refine VO.callN 102 rfl fnOk113 rfl (fun W hW => SameStarts_ok W (Rd.mono h0 (hW.at (i := 0) rfl)) (OwnL.rd (Ow.ownl f1_0 rfl mnil) (hW.at (i := 101) rfl) (mle_nil _))) (fun v2 m2 hv2 => ?_)
  subst hv2
  refine VO.as ?_
  refine VO.k3 0 1 4 ?_
  refine VC.ret ?_
  refine ⟨_, _, res_run (rs := [.tmp 4]) rfl (.tmp rfl .nil), fun W_ hI => out_of (l := []) hI [] rfl rfl (mle_refl _) (fun hS_ => ?_)⟩
  dsimp only [packV]
  all_goals (first | rfl | (rfl))
theorem LentMessage_ok (W : World) {v0 : List Value} {d0 : DMessage} (h0 : Rd TMessage (wm W) v0 d0) (e0 : d0.2.2.2.2.1.length ≤ 8796093020000) (e1 : d0.2.2.2.2.2.2.2.length ≤ 3518437200000) (e2 : ∀ c ∈ d0.2.2.2.2.2.2.2, c.2.2.length ≤ 3518437208800) : CallR Try.prog 83 [.agg v0.toArray] W (mnil) (fun v m' => ∃ (s0 : List Value), v = .agg s0.toArray ∧ Ow TLMessage m' s0 (lentM d0)) := by
  obtain ⟨p0_A4, p0_c4, p0_A7, p0_c7, rfl, p0_0, p0_1, p0_2, p0_3, p0_4, p0_5, p0_6, p0_7⟩ := open_Message (x0 := d0.1) (x1 := d0.2.1) (x2 := d0.2.2.1) (x3 := d0.2.2.2.1) (x4 := d0.2.2.2.2.1) (x5 := d0.2.2.2.2.2.1) (x6 := d0.2.2.2.2.2.2.1) (x7 := d0.2.2.2.2.2.2.2) h0
  simp only [inK] at p0_0
  simp only [inK] at p0_1
  simp only [inK] at p0_2
  simp only [inK] at p0_3
  have p0_r4 := Rd.room p0_4
  simp only [inK] at p0_5
  simp only [inK] at p0_6
  have p0_r7 := Rd.room p0_7
  refine CallR.ofA (n := 20) Try.func83 rfl rfl rfl ?_
  refine VC.rs ?_
  refine VO.box (cs := [Value.int .i64 (d0.1), Value.int .i64 (d0.2.1), Value.int .u8 (d0.2.2.1), Value.int .i64 (d0.2.2.2.1), Value.slice p0_A4 (d0.2.2.2.2.1.length) (p0_c4), Value.int .i64 (d0.2.2.2.2.2.1), Value.int .i64 (d0.2.2.2.2.2.2.1), Value.slice p0_A7 (d0.2.2.2.2.2.2.2.length) (p0_c7)]) 102 rfl rfl rfl (fun g1 => ?_)
  refine VO.alloc 104 rfl tz72 (fun g3 => ?_)
  refine VO.k3 0 1 2 ?_
  refine VC.seq ?_
  refine VC.regD _ 6 [(0, true), (1, true), (3, true), (4, true), (5, true), (2, false)] follows (by kernel_rfl) (fun _ h => h.sub [104, 102, 0]) ?_
  refine VD.y rfl rfl (.inl rfl) (.fa rfl tst72 rfl) ?_
  refine VD.y rfl rfl (.inl rfl) (.ld1 102 rfl tk70 rfl (cellsAt_one rfl rfl)) ?_
  refine VD.y rfl rfl (.inl rfl) (.fa rfl tst72 rfl) ?_
  refine VD.y rfl rfl (.inl rfl) (.ld1 102 rfl tk70 rfl (cellsAt_one rfl rfl)) ?_
  refine VD.y rfl rfl (.inl rfl) (.lenS rfl tsl70) ?_
  refine VD.callN 105 rfl rfl (.inl rfl) fnOk120 rfl (fun _ h => h.sub [104, 102, 0]) (fun W hW => LentStarts_ok W (Rd.mono p0_4 (hW.at (i := 0) rfl)) bd) (fun v5 m5 hv5 => ?_)
  obtain ⟨s5_0, rfl, f5_0⟩ := hv5
  obtain ⟨A5_0, c5_0, eq5_0, l5_0, k5_0⟩ := f5_0.slice
  subst eq5_0
  simp only [maxLen] at k5_0
  refine VD.nil rfl ?_ rfl
  have hs6 := (OwnL.rd (Ow.ownl f5_0 rfl mnil) (mle_refl _) (mle_nil _)).pre (j := d0.2.2.2.2.1.length) bd
  rw [List.take_left] at hs6
  refine VO.y rfl (.slHI d0.2.2.2.2.1.length rfl rfl tsl70 rfl bd) ?_
  refine VO.y rfl (.fa rfl tst72 rfl) ?_
  refine VO.store (k := 1) 102 rfl rfl (.inr ⟨tk70, rfl⟩) rfl rfl rfl rfl rfl ?_
  refine VO.k3 0 1 2 ?_
  refine outN ?_
  refine VC.seq ?_
  refine VC.regD _ 6 [(0, true), (1, true), (3, true), (4, true), (5, true), (2, false)] follows (by kernel_rfl) (fun _ h => h.sub [105, 104, 102, 0]) ?_
  refine VD.y rfl rfl (.inl rfl) (.fa rfl tst72 rfl) ?_
  refine VD.y rfl rfl (.inl rfl) (.ld1 102 rfl tk61 rfl (cellsAt_one rfl rfl)) ?_
  refine VD.y rfl rfl (.inl rfl) (.fa rfl tst72 rfl) ?_
  refine VD.y rfl rfl (.inl rfl) (.ld1 102 rfl tk61 rfl (cellsAt_one rfl rfl)) ?_
  refine VD.y rfl rfl (.inl rfl) (.lenS rfl tsl61) ?_
  refine VD.callN 107 rfl rfl (.inl rfl) fnOk53 rfl (fun _ h => h.sub [105, 104, 102, 0]) (fun W hW => LentCommits_ok W (Rd.mono p0_7 (hW.at (i := 0) rfl)) bd (by assumption)) (fun v7 m7 hv7 => ?_)
  obtain ⟨s7_0, rfl, f7_0⟩ := hv7
  have hfa8 := lent_len d0.2.2.2.2.2.2.2
  obtain ⟨A7_0, c7_0, eq7_0, l7_0, k7_0⟩ := f7_0.slice
  subst eq7_0
  simp only [maxLen] at k7_0
  refine VD.nil rfl ?_ rfl
  have hs9 := (Ow.rd f7_0 (mle_refl _)).pre (j := d0.2.2.2.2.2.2.2.length) bd
  refine VO.y rfl (.slHI d0.2.2.2.2.2.2.2.length rfl rfl tsl61 rfl bd) ?_
  refine VO.y rfl (.fa rfl tst72 rfl) ?_
  refine VO.store (k := 1) 102 rfl rfl (.inr ⟨tk61, rfl⟩) rfl rfl rfl rfl rfl ?_
  refine VO.kp [107, 105, 104, 102, 0] [(107, m7), (105, m5), (104, mone g3 (.cells [Value.int .i64 (0), Value.int .i64 (0), Value.int .u8 (0), Value.int .i64 (0), Value.slice none (0) (0), Value.int .i64 (0), Value.int .i64 (0), Value.slice none (0) (0)].toArray 72 (0, 0))), (102, mone g1 (.cells [Value.int .i64 (d0.1), Value.int .i64 (d0.2.1), Value.int .u8 (d0.2.2.1), Value.int .i64 (d0.2.2.2.1), Value.slice A5_0 (d0.2.2.2.2.1.length) (c5_0), Value.int .i64 (d0.2.2.2.2.2.1), Value.int .i64 (d0.2.2.2.2.2.2.1), Value.slice A7_0 (d0.2.2.2.2.2.2.2.length) (c7_0)].toArray 72 (0, 0))), (0, wm W)] ?_
  refine VO.k3 0 1 2 ?_
  refine outN ?_
  refine VC.rs ?_
  refine VO.y rfl (.ldA 102 rfl tk72 rfl (cellsAt_one rfl rfl)) ?_
  refine VO.store (k := 8) 104 rfl rfl (.inl tk72) rfl rfl rfl rfl rfl ?_
  refine VO.k3 0 1 2 ?_
  refine VC.ret ?_
  refine ⟨_, _, res_run (rs := [.cell 2 72]) rfl (.agg 104 rfl tk72 rfl ⟨_, _, _, mone_self _ _, Nat.le_of_ble_eq_true rfl, rfl⟩ .nil), fun W_ hI => out_of (l := [m5, m7]) hI [105, 107] rfl rfl (mle_refl _) (fun hS_ => ?_)⟩
  dsimp only [packV]
  have he0 : (lentM d0 : Ty.Den TLMessage) = (d0.1, d0.2.1, d0.2.2.1, d0.2.2.2.1, (d0.2.2.2.2.1, spareS), d0.2.2.2.2.2.1, d0.2.2.2.2.2.2.1, (d0.2.2.2.2.2.2.2.map lentC, spareC)) := by first | rfl | (simp [*]; done)
  refine ⟨[Value.int .i64 (d0.1), Value.int .i64 (d0.2.1), Value.int .u8 (d0.2.2.1), Value.int .i64 (d0.2.2.2.1), Value.slice A5_0 (d0.2.2.2.2.1.length) (c5_0), Value.int .i64 (d0.2.2.2.2.2.1), Value.int .i64 (d0.2.2.2.2.2.2.1), Value.slice A7_0 (d0.2.2.2.2.2.2.2.length) (c7_0)], ?_, ?_⟩
  rotate_left
  · rw [he0]; exact (mkO_LMessage d0.1 d0.2.1 d0.2.2.1 d0.2.2.2.1 (d0.2.2.2.2.1, spareS) d0.2.2.2.2.2.1 d0.2.2.2.2.2.2.1 (d0.2.2.2.2.2.2.2.map lentC, spareC) hS_ bdk bdk bdk bdk (Ow.mkSpl (e := TStart) (xs := d0.2.2.2.2.1) (ys := spareS) (OwnL.ow (Ow.ownl f5_0 rfl mnil) rfl) (by first | rfl | simp)) bdk bdk (Ow.mkSpl (e := TLCommit) (xs := (d0.2.2.2.2.2.2.2.map lentC)) (ys := spareC) f7_0 (by first | rfl | simp)))
  all_goals (first | rfl | (simp [*]; done))
theorem KeptMessage_ok (W : World) {v0 : List Value} {d0 : DLMessage} (h0 : Rd TLMessage (wm W) v0 d0) {v1 : List Value} {d1 : DMessage} (h1 : Rd TMessage (wm W) v1 d1) (e0 : d0 = lentM d1) (e1 : d1.2.2.2.2.1.length ≤ 8796093020000) (e2 : d1.2.2.2.2.2.2.2.length ≤ 3518437200000) (e3 : ∀ c ∈ d1.2.2.2.2.2.2.2, c.2.2.length ≤ 3518437208800) : CallR Try.prog 86 [.agg v0.toArray, .agg v1.toArray] W (mnil) (fun v m' => v = .bool true) := by
  have ea : (d0.2.2.2.2.1.1 ++ d0.2.2.2.2.1.2).length = d1.2.2.2.2.1.length + 3 := (by rw [e0]; simp [lentM, spareS]); have eb : (d0.2.2.2.2.2.2.2.1 ++ d0.2.2.2.2.2.2.2.2).length = d1.2.2.2.2.2.2.2.length + 3 := (by rw [e0]; simp [lentM, spareC])
  obtain ⟨p0_A4, p0_c4, p0_A7, p0_c7, rfl, p0_0, p0_1, p0_2, p0_3, p0_4, p0_5, p0_6, p0_7⟩ := open_LMessage (x0 := d0.1) (x1 := d0.2.1) (x2 := d0.2.2.1) (x3 := d0.2.2.2.1) (x4 := d0.2.2.2.2.1) (x5 := d0.2.2.2.2.2.1) (x6 := d0.2.2.2.2.2.2.1) (x7 := d0.2.2.2.2.2.2.2) h0
  simp only [inK] at p0_0
  simp only [inK] at p0_1
  simp only [inK] at p0_2
  simp only [inK] at p0_3
  have p0_f4 := (Rd.full p0_4).2
  have p0_s4 := Rd.pre2 p0_f4
  have p0_r4 := Rd.room p0_f4
  simp only [inK] at p0_5
  simp only [inK] at p0_6
  have p0_f7 := (Rd.full p0_7).2
  have p0_s7 := Rd.pre2 p0_f7
  have p0_r7 := Rd.room p0_f7
  obtain ⟨p1_A4, p1_c4, p1_A7, p1_c7, rfl, p1_0, p1_1, p1_2, p1_3, p1_4, p1_5, p1_6, p1_7⟩ := open_Message (x0 := d1.1) (x1 := d1.2.1) (x2 := d1.2.2.1) (x3 := d1.2.2.2.1) (x4 := d1.2.2.2.2.1) (x5 := d1.2.2.2.2.2.1) (x6 := d1.2.2.2.2.2.2.1) (x7 := d1.2.2.2.2.2.2.2) h1
  simp only [inK] at p1_0
  simp only [inK] at p1_1
  simp only [inK] at p1_2
  simp only [inK] at p1_3
  have p1_r4 := Rd.room p1_4
  simp only [inK] at p1_5
  simp only [inK] at p1_6
  have p1_r7 := Rd.room p1_7
  refine CallR.ofA (n := 31) Try.func86 rfl rfl rfl ?_
  refine VC.rs ?_
  refine VO.box (cs := [Value.int .i64 (d0.1), Value.int .i64 (d0.2.1), Value.int .u8 (d0.2.2.1), Value.int .i64 (d0.2.2.2.1), Value.slice p0_A4 (d0.2.2.2.2.1.1.length) (p0_c4), Value.int .i64 (d0.2.2.2.2.2.1), Value.int .i64 (d0.2.2.2.2.2.2.1), Value.slice p0_A7 (d0.2.2.2.2.2.2.2.1.length) (p0_c7)]) 102 rfl rfl rfl (fun g1 => ?_)
  refine VO.box (cs := [Value.int .i64 (d1.1), Value.int .i64 (d1.2.1), Value.int .u8 (d1.2.2.1), Value.int .i64 (d1.2.2.2.1), Value.slice p1_A4 (d1.2.2.2.2.1.length) (p1_c4), Value.int .i64 (d1.2.2.2.2.2.1), Value.int .i64 (d1.2.2.2.2.2.2.1), Value.slice p1_A7 (d1.2.2.2.2.2.2.2.length) (p1_c7)]) 104 rfl rfl rfl (fun g3 => ?_)
  refine VO.as ?_
  refine VO.k5 0 1 2 3 4 ?_
  refine VC.seq ?_
  refine VC.rs ?_
  refine VO.y rfl (.ldA 102 rfl tk72 rfl (cellsAt_one rfl rfl)) ?_
  refine VO.y rfl (.ldA 104 rfl tk72 rfl (cellsAt_one rfl rfl)) ?_
  refine VO.callN 105 rfl fnOk71 rfl (fun W hW => SameMessage_ok W (mk_Message (m := wm W) d0.1 d0.2.1 d0.2.2.1 d0.2.2.2.1 d0.2.2.2.2.1.1 d0.2.2.2.2.2.1 d0.2.2.2.2.2.2.1 (d0.2.2.2.2.2.2.2.1.map fgC) bdk bdk bdk bdk (Rd.mono p0_s4 (hW.at (i := 0) rfl)) bdk bdk (fgC_rd (Rd.mono p0_s7 (hW.at (i := 0) rfl)))) (Rd.mono h1 (hW.at (i := 0) rfl))) (fun v5 m5 hv5 => ?_)
  try dsimp only at hv5
  subst hv5
  refine VO.y rfl (.notD rfl) ?_
  refine VO.k6 0 1 2 3 4 8 ?_
  refine VC.cond rfl (fun hc6 => ?_) (fun hc6 => ?_)
  · -- T
    exact absurd (by rw [e0]; exact lentM_fg d1) hc6
  · -- F
    refine VC.skip ?_
    refine outN ?_
    refine VC.seq ?_
    refine VC.regD _ 20 [(0, true), (1, true), (2, true), (3, true), (4, true), (5, true), (6, true), (7, true), (8, true), (9, false), (10, true), (11, true), (12, true), (13, true), (14, true), (15, true), (16, true), (17, true), (18, true), (19, true)] follows (by kernel_rfl) (fun _ h => h.sub [105, 104, 102, 0]) ?_
    refine VD.y rfl rfl (.inl rfl) (.fa rfl tst72 rfl) ?_
    refine VD.y rfl rfl (.inl rfl) (.ld1 102 rfl tk70 rfl (cellsAt_one rfl rfl)) ?_
    refine VD.y rfl rfl (.inl rfl) (.fa rfl tst72 rfl) ?_
    refine VD.y rfl rfl (.inl rfl) (.ld1 104 rfl tk70 rfl (cellsAt_one rfl rfl)) ?_
    refine VD.y rfl rfl (.inl rfl) (.lenS rfl tsl70) ?_
    refine VD.y rfl rfl (.inl rfl) (.add (c := ((d1.2.2.2.2.1.length + 3 : Nat) : Int)) rfl rfl (by omega) ⟨bd, bd⟩) ?_
    have hs7 := p0_f4.pre (j := (d1.2.2.2.2.1.length + 3)) bd
    refine VD.y rfl rfl (.inl rfl) (.slHI (d1.2.2.2.2.1.length + 3) rfl rfl tsl70 rfl bd) ?_
    refine VD.y rfl rfl (.inl rfl) (.fa rfl tst72 rfl) ?_
    refine VD.y rfl rfl (.inl rfl) (.ld1 104 rfl tk70 rfl (cellsAt_one rfl rfl)) ?_
    refine VD.callN 108 rfl rfl (.inl rfl) fnOk123 rfl (fun _ h => h.sub [105, 104, 102, 0]) (fun W hW => KeptStarts_ok W (Rd.mono hs7 (hW.at (i := 0) rfl)) (Rd.mono p1_4 (hW.at (i := 0) rfl)) bd) (fun v8 m8 hv8 => ?_)
    subst hv8
    refine VD.y rfl rfl (.inl rfl) (.mv rfl) ?_
    refine VD.dec (s := 19) rfl (fun hc9 => ?_) (fun hc9 => ?_)
    · -- FT
      refine VD.y rfl rfl (.inr ⟨_, _, rfl, _, rfl, rfl⟩) (.fa rfl tst72 rfl) ?_
      refine VD.y rfl rfl (.inr ⟨_, _, rfl, _, rfl, rfl⟩) (.ld1 102 rfl tk61 rfl (cellsAt_one rfl rfl)) ?_
      refine VD.y rfl rfl (.inr ⟨_, _, rfl, _, rfl, rfl⟩) (.fa rfl tst72 rfl) ?_
      refine VD.y rfl rfl (.inr ⟨_, _, rfl, _, rfl, rfl⟩) (.ld1 104 rfl tk61 rfl (cellsAt_one rfl rfl)) ?_
      refine VD.y rfl rfl (.inr ⟨_, _, rfl, _, rfl, rfl⟩) (.lenS rfl tsl61) ?_
      refine VD.y rfl rfl (.inr ⟨_, _, rfl, _, rfl, rfl⟩) (.add (c := ((d1.2.2.2.2.2.2.2.length + 3 : Nat) : Int)) rfl rfl (by omega) ⟨bd, bd⟩) ?_
      have hs10 := p0_f7.pre (j := (d1.2.2.2.2.2.2.2.length + 3)) bd
      refine VD.y rfl rfl (.inr ⟨_, _, rfl, _, rfl, rfl⟩) (.slHI (d1.2.2.2.2.2.2.2.length + 3) rfl rfl tsl61 rfl bd) ?_
      refine VD.y rfl rfl (.inr ⟨_, _, rfl, _, rfl, rfl⟩) (.fa rfl tst72 rfl) ?_
      refine VD.y rfl rfl (.inr ⟨_, _, rfl, _, rfl, rfl⟩) (.ld1 104 rfl tk61 rfl (cellsAt_one rfl rfl)) ?_
      refine VD.nil rfl ?_ rfl
      refine VO.gcallN 111 rfl ⟨_, rfl, rfl⟩ fnOk55 rfl (fun W hW => KeptCommits_ok W (Rd.mono hs10 (hW.at (i := 0) rfl)) (Rd.mono p1_7 (hW.at (i := 0) rfl)) (by rw [e0]; exact lent_whole _) bd (by assumption)) (fun v11 m11 hv11 => ?_)
      subst hv11
      refine VO.y rfl (.pT rfl rfl) ?_
      refine VO.as ?_
      refine VO.kp [104, 102, 0] [(104, mone g3 (.cells [Value.int .i64 (d1.1), Value.int .i64 (d1.2.1), Value.int .u8 (d1.2.2.1), Value.int .i64 (d1.2.2.2.1), Value.slice p1_A4 (d1.2.2.2.2.1.length) (p1_c4), Value.int .i64 (d1.2.2.2.2.2.1), Value.int .i64 (d1.2.2.2.2.2.2.1), Value.slice p1_A7 (d1.2.2.2.2.2.2.2.length) (p1_c7)].toArray 72 (0, 0))), (102, mone g1 (.cells [Value.int .i64 (d0.1), Value.int .i64 (d0.2.1), Value.int .u8 (d0.2.2.1), Value.int .i64 (d0.2.2.2.1), Value.slice p0_A4 (d0.2.2.2.2.1.1.length) (p0_c4), Value.int .i64 (d0.2.2.2.2.2.1), Value.int .i64 (d0.2.2.2.2.2.2.1), Value.slice p0_A7 (d0.2.2.2.2.2.2.2.1.length) (p0_c7)].toArray 72 (0, 0))), (0, wm W)] ?_
      refine VO.k6 0 1 2 3 4 8 ?_
      refine outN ?_
      refine VC.ret ?_
      refine ⟨_, _, res_run (rs := [.tmp 4]) rfl (.tmp rfl .nil), fun W_ hI => out_of (l := []) hI [] rfl rfl (mle_refl _) (fun hS_ => ?_)⟩
      dsimp only [packV]
      all_goals (first | rfl | (simp [*]; done))
    · -- FF
      exact absurd (by rw [e0]; exact lentS_whole _) hc9
end
section
set_option linter.unusedVariables false
set_option linter.unusedSimpArgs false
set_option maxRecDepth 4000
theorem fnOk76 : fnOk Try.prog 76 = true := by kernel_rfl
end
section
section
variable {P : Program} {n : Nat} {w0 : World} {σ : Env} {Ω : Ctx} {ops : Array Oper} {K : Env → Ctx → Prop}
theorem Stp.appO {e : Ty} {s x : Operand} {t xt et xe : TypeId} {b g c : Nat} {d : Option Nat} {gd : Option (Nat × Bool)} {ty : TypeId} {pos : String} {af : Array Edge} {v : Value} {xs : List e.Den} {y : e.Den} {yc z : List Value} (i j k : Nat) {m mj mk : Mem} (hsv : ev σ s = some v) (hxv : ev σ x = some (.slice (some ⟨g, 0, none⟩) 1 c)) (ht : tsl P t = some (et, e.sz, b)) (hz : tz P et = some z) (hzl : z.length = e.sz)
    (hm : cget Ω i = some m) (hj : cget (cdel Ω i) j = some mj) (hk : cget Ω k = some mk) (hown : Ow (.sl e) m [v] xs) (hy : Ow e mj yc y) (hxt : P.underlying xt = some (.slice xe)) (hc : cellsAt mk g 0 e.sz yc) (hml : xs.length + 1 ≤ maxLen) (hb : (xs.length + 1) * b ≤ 140737488355328) (hb0 : b ≠ 0) :
    Stp P n w0 σ Ω ⟨d, .call { callee := .builtin .append, args := [s, x].toArray, argTypes := [t, xt].toArray }, ty, pos, af, gd⟩ (fun v' Ω' => ∃ m', Ow (.sl e) m' [v'] (xs ++ [y]) ∧ Ω' = (i, m') :: cdel (cdel Ω i) j) :=
  fun a W he hi K' Q hK => by
    obtain ⟨m0, m1, rc, hS, hA, hL⟩ := hown.opn
    obtain ⟨q1, q2, q3, q4, _⟩ := hi.gets (ids := [i, j]) (l := [m, mj]) (by simp [cgets, hm, hj])
    have dmj : mdj m mj := by simpa using q1
    have d01 : mdj m0 m1 := by have := hS.2; simpa using this
    have l0 := hS.1 m0 (.head _)
    have l1 := hS.1 m1 (.tail _ (.head _))
    have d1j : mdj m1 mj := dmj.mono l1 (mle_refl _)
    have hnew : mdj m0 (mun m1 mj) := (mdj_un d01.symm (dmj.mono l0 (mle_refl _)).symm).symm
    have hΩ2 : Inv w0 ((i, m0) :: (j, mun m1 mj) :: cdel (cdel Ω i) j) W := by
      have hdel : Inv w0 (cdel (cdel Ω i) j) W := q4
      have f1 : ∀ p ∈ cdel (cdel Ω i) j, mdj m p.2 := fun p hp => q3 m (.head _) p hp
      have f2 : ∀ p ∈ cdel (cdel Ω i) j, mdj mj p.2 := fun p hp => q3 mj (.tail _ (.head _)) p hp
      refine ⟨hi.os, hi.tape, hi.output, hi.size, fun p hp => ?_, List.pairwise_cons.2 ⟨fun p hp => ?_, List.pairwise_cons.2 ⟨fun p hp => ?_, hdel.dj⟩⟩⟩
      · rcases List.mem_cons.1 hp with rfl | hp
        · exact l0.trans (hi.at hm)
        · rcases List.mem_cons.1 hp with rfl | hp
          · exact mun_le (l1.trans (hi.at hm)) (q2 mj (.tail _ (.head _)))
          · exact hdel.le p hp
      · rcases List.mem_cons.1 hp with rfl | hp
        · exact hnew
        · exact (f1 p hp).mono l0 (mle_refl _)
      · exact mdj_un ((f1 p hp).mono l1 (mle_refl _)) (f2 p hp)
    have hsrc : SrcW P W e.sz xt (.slice (some ⟨g, 0, none⟩) 1 c) 1 yc := by
      refine ⟨⟨_, hxt, by simp⟩, by rw [hy.len]; omega, fun W' hW => ?_, fun W' => by simp [Builtin.lenOf]⟩
      have hc2 : cellsAt (wm W') g 0 (1 * e.sz) yc := by
        rw [Nat.one_mul]
        refine hc.mono (fun q o ho => ?_)
        have := hi.at hk q o ho
        unfold wm at this ⊢
        rw [hW]; exact this
      exact firstCells_row hc2
    refine app_wp (i := i) (m := m0) (m0 := m0) he hΩ2 hsv hxv ht hz hzl (by simp [cget]) (mle_refl _) hA hsrc hy.nice hml hb hb0 fun v' m' W' hA' hi' => ?_
    have hc' : cset ((i, m0) :: (j, mun m1 mj) :: cdel (cdel Ω i) j) i m' = (i, m') :: (j, mun m1 mj) :: cdel (cdel Ω i) j := by simp [cset]
    rw [hc'] at hi'
    have hdj : mdj m' (mun m1 mj) := (List.pairwise_cons.1 hi'.dj).1 _ (.head _)
    have hall : OwAll (Ow e) (mun m1 mj) (rc ++ yc) (xs ++ [y]) := OwAll.app d1j (mle_un_left _ _) (mle_un_right d1j) hL (.one hy (mle_refl _))
    have how : Ow (.sl e) (mun m' (mun m1 mj)) [v'] (xs ++ [y]) := ⟨v', m', mun m1 mj, rc ++ yc, rfl, hdj, mle_un_left _ _, mle_un_right hdj, by simpa using hA', hall⟩
    refine hK v' ((i, mun m' (mun m1 mj)) :: cdel (cdel Ω i) j) W' ⟨_, how, rfl⟩ ?_
    refine ⟨hi'.os, hi'.tape, hi'.output, hi'.size, fun p hp => ?_, List.pairwise_cons.2 ⟨fun p hp => ?_, (List.pairwise_cons.1 (List.pairwise_cons.1 hi'.dj).2).2⟩⟩
    · rcases List.mem_cons.1 hp with rfl | hp
      · exact mun_le (hi'.le (i, m') (.head _)) (hi'.le (j, mun m1 mj) (.tail _ (.head _)))
      · exact hi'.le p (.tail _ (.tail _ hp))
    · exact mdj_un ((List.pairwise_cons.1 hi'.dj).1 p (.tail _ hp)) ((List.pairwise_cons.1 (List.pairwise_cons.1 hi'.dj).2).1 p hp)
theorem VD.appO {tt q : Nat} {ss : List (Nat × Bool)} {ΩS : Ctx} {ty : TypeId} {pos : String} {af : Array Edge} {e : Ty} {s x : Operand} {t xt et xe : TypeId} {b dd g c : Nat} {v : Value} {xs : List e.Den} {y : e.Den} {yc z : List Value} (i j k : Nat) {m mj mk : Mem} (hd : Nat.blt dd n = true) (ho : ops[q]? = some ⟨some dd, .call { callee := .builtin .append, args := [s, x].toArray, argTypes := [t, xt].toArray }, ty, pos, af, none⟩) (hsv : ev σ s = some v) (hxv : ev σ x = some (.slice (some ⟨g, 0, none⟩) 1 c)) (ht : tsl P t = some (et, e.sz, b)) (hz : tz P et = some z) (hzl : z.length = e.sz)
    (hm : cget Ω i = some m) (hj : cget (cdel Ω i) j = some mj) (hk : cget Ω k = some mk) (hown : Ow (.sl e) m [v] xs) (hy : Ow e mj yc y) (hxt : P.underlying xt = some (.slice xe)) (hc : cellsAt mk g 0 e.sz yc) (hml : xs.length + 1 ≤ maxLen) (hb : (xs.length + 1) * b ≤ 140737488355328) (hb0 : b ≠ 0) (hS : ∀ m' W, Inv w0 ((i, m') :: cdel (cdel Ω i) j) W → Inv w0 ΩS W)
    (h : ∀ v' m', Ow (.sl e) m' [v'] (xs ++ [y]) → VD P n w0 ops ΩS tt ss ((dd, v') :: σ) ((i, m') :: cdel (cdel Ω i) j) K) : VD P n w0 ops ΩS tt ((q, false) :: ss) σ Ω K :=
  VD.s (fun v => (dd, v) :: σ) ho (fun v _ he => he.put hd v) (.inl rfl) (Stp.appO i j k hsv hxv ht hz hzl hm hj hk hown hy hxt hc hml hb hb0) (fun _ _ ⟨m', _, hΩ⟩ W hW => hS m' W (by subst hΩ; exact hW)) (fun v _ ⟨m', hp, hΩ⟩ => hΩ ▸ h v m' hp)
end
end
section
/-- the machine, or a round of loop record l. -/
def fen (ρ : Option Nat) : Fence := { Fence.wide with round := ρ }
/-- the marks of the block that gathers rounds' deferred calls. -/
def dl : Option Nat → List Deferred
  | none => []
  | some D => [{ target := .collected D, args := #[] }]
def wd (a : Act) (D : List Deferred) : Act := { a with defers := a.defers ++ D }
theorem wd_eval (a : Act) (D : List Deferred) : (wd a D).eval = a.eval := by funext x; cases x <;> rfl
theorem wd_put (a : Act) (D : List Deferred) (dst : Option Tmp) (v : Value) : (wd a D).put dst v = wd (a.put dst v) D := by cases dst <;> rfl
theorem wd_tmps (a : Act) (D : List Deferred) : (wd a D).tmps = a.tmps := rfl
def noDefer (ops : Array Oper) : Bool := ops.all fun o => match o.op with
  | .defer _ => false
  | _ => true
theorem rows_in {P : Program} {ρ : Option Nat} {m : Nat} {row : String} {args : Array Value} {w : World} {R : Value → World → Prop} (h : Rows P row args w R) : RowsIn (fen ρ) m P row args w R := fun c cs _ =>
  let ⟨v, w', r, s⟩ := h c cs
  ⟨v, w', r, stepsIn_wide.2 s⟩
/-- Operations go in a round, and with marks, as anywhere. -/
theorem ops_in {P : Program} {ρ : Option Nat} {m : Nat} {ops : Array Oper} {Q Q' : Exit → Act → World → Prop} {D : List Deferred} (hd : noDefer ops = true) (hp : ∀ c a w, ¬ Q (.panic c) a w) (ho : ∀ a w, ¬ Q .outgrown a w)
    (hQ : ∀ a w, Q .normal a w → Q' .normal (wd a D) w) : ∀ (l : List Nat) (a : Act) (w : World), wpOps P ops Q l a w → wpOpsIn (fen ρ) m P ops Q' l (wd a D) w
  | [], a, w, h => hQ a w h
  | i :: rest, a, w, h => by
    have ih := ops_in (P := P) (ρ := ρ) (m := m) hd hp ho hQ rest
    simp only [wpOps] at h
    simp only [wpOpsIn]
    cases hi : ops[i]? with
    | none => rw [hi] at h; exact ih a w h
    | some o =>
      rw [hi] at h
      dsimp only at h ⊢
      rw [wd_tmps]
      by_cases hw : Region.wanted o (yielded ops a.tmps) = true
      · rw [if_pos hw] at h ⊢
        have h := h.resolve_right fun q => by obtain ⟨a', w', hq⟩ := q.2; exact ho _ _ hq
        have hnd : ∀ c, o.op ≠ .defer c := fun c e => by
          have hm := Array.mem_of_getElem? hi
          have := (Array.all_eq_true_iff_forall_mem.1 hd) o hm
          rw [e] at this; cases this
        refine ⟨fun _ _ => trivial, ?_⟩
        rw [Oper.semAt_eq _ _ _ hnd, wd_eval]
        unfold Oper.wp at h
        generalize (execOp a.eval o).run P w = r at h ⊢
        cases r with
        | ok n w' =>
          cases n with
          | value v => show wpOpsIn _ _ _ _ _ _ _ _; rw [wd_put]; exact ih _ _ h
          | skip => show wpOpsIn _ _ _ _ _ _ _ _; rw [wd_put]; exact ih _ _ h
          | enter f args =>
            refine ⟨fun q => (by cases q), ?_⟩
            have h' : CallsIn Fence.wide (m - 1) P f args w' _ := callsIn_wide.2 h
            refine CallsIn.mono (show CallsIn (fen ρ) (m - 1) P f args w' _ from h') ?_
            intro e w'' hr
            cases e with
            | returned v => show wpOpsIn _ _ _ _ _ _ _ _; rw [wd_put]; exact ih _ _ hr
            | panicked c => exact absurd hr (hp _ _ _)
            | outgrown => obtain ⟨a', w3, hq⟩ := hr; exact absurd hq (ho _ _)
          | row row args =>
            refine ⟨fun q => (by cases q), RowsIn.mono (rows_in h) fun v w'' hr => ?_⟩
            rw [wd_put]; exact ih _ _ hr
          | defer d =>
            show wpOpsIn _ _ _ _ _ _ _ _
            have e : ({ wd a D with defers := d :: (wd a D).defers } : Act) = wd { a with defers := d :: a.defers } D := rfl
            rw [e, wd_put]; exact ih _ _ h
          | _ => exact h.elim
        | halt e w' =>
          cases e with
          | panic v => exact absurd h (hp _ _ _)
          | _ => exact h.elim
      · rw [if_neg hw] at h ⊢
        refine ⟨fun _ _ => trivial, ?_⟩
        rw [wd_put]; exact ih _ _ h
section
variable (P : Program) (n : Nat) (w0 : World)
/-- Code, in a round or not (ρ), with a mark or none (d). -/
def VX (ρ : Option Nat) (c : Code) (R : Option Nat → Exit → Env → Ctx → Prop) (d : Option Nat) (σ : Env) (Ω : Ctx) : Prop :=
  ∀ Q : Exit → Act → World → Prop, (∀ d' e σ' Ω' a W, R d' e σ' Ω' → EnvOk n σ' a → Inv w0 Ω' W → Q e (wd a (dl d')) W) → ∀ a W, EnvOk n σ a → Inv w0 Ω W → c.wpIn (fen ρ) 0 P Q (wd a (dl d)) W
end
@[reducible] def thenX (k : Option Nat → Env → Ctx → Prop) (R : Option Nat → Exit → Env → Ctx → Prop) : Option Nat → Exit → Env → Ctx → Prop := fun d => thenR (k d) (R d)
@[reducible] def blkX (id : Nat) (R : Option Nat → Exit → Env → Ctx → Prop) : Option Nat → Exit → Env → Ctx → Prop := fun d => inBlk id (R d)
section
variable {P : Program} {n : Nat} {w0 : World} {σ : Env} {Ω : Ctx} {ρ d : Option Nat} {R : Option Nat → Exit → Env → Ctx → Prop}
theorem wpOps_list {ops : Array Oper} {Q : Exit → Act → World → Prop} : ∀ (l : List Oper) (k : Nat) (a : Act) (W : World), (∀ j o, l[j]? = some o → ops[k + j]? = some o) → wpList P ops Q l a W → wpOps P ops Q (List.range' k l.length) a W
  | [], _, _, _, _, h => h
  | o :: l, k, a, W, hl, h => by
    have h0 : ops[k]? = some o := hl 0 o rfl
    rw [List.length_cons, List.range'_succ]
    unfold wpOps
    rw [h0]
    unfold wpList at h
    have ih := fun a W => wpOps_list (Q := Q) l (k + 1) a W (fun j o' h' => by have := hl (j + 1) o' h'; rwa [show k + (j + 1) = k + 1 + j by omega] at this)
    dsimp only
    split
    · rename_i hw; rw [if_pos hw] at h; exact h.imp (Oper.wp_mono ih) id
    · rename_i hw; rw [if_neg hw] at h; exact ih _ _ h
/-- what VO says, without panics. -/
theorem VO.ops {ops : Array Oper} {K : Env → Ctx → Prop} {l : List Oper} (h : VO P n w0 ops l σ Ω K) {a : Act} {W : World} (he : EnvOk n σ a) (hi : Inv w0 Ω W) :
    wpList P ops (fun e a W => e = .normal ∧ ∃ σ' Ω', K σ' Ω' ∧ EnvOk n σ' a ∧ Inv w0 Ω' W) l a W :=
  h _ (fun σ' Ω' a W hk he hi => ⟨rfl, σ', Ω', hk, he, hi⟩) a W he hi
theorem VX.reg {id : Nat} {l : List Oper} (h : VO P n w0 l.toArray l σ Ω (R d .normal)) (hnd : noDefer l.toArray = true := by kernel_rfl) : VX P n w0 ρ (.region id l.toArray false) R d σ Ω :=
  fun Q hQ a W he hi => wpIn_region (by
    have h1 := wpOps_list l 0 a W (fun j o h' => by simpa using h') (h.ops he hi)
    rw [show List.range l.toArray.size = List.range' 0 l.length by rw [List.size_toArray, List.range_eq_range']]
    exact ops_in hnd (fun _ _ _ q => by cases q.1) (fun _ _ q => by cases q.1) (fun a w ⟨_, σ', Ω', hk, he, hi⟩ => hQ _ _ σ' Ω' a w hk he hi) _ a W h1)
theorem VX.seq {x y : Code} (h : VX P n w0 ρ x (thenX (fun d σ' Ω' => VX P n w0 ρ y R d σ' Ω') R) d σ Ω) : VX P n w0 ρ (.seq x y) R d σ Ω :=
  fun Q hQ a W he hi => wpIn_seq (h (Exit.then (y.wpIn (fen ρ) 0 P Q) Q) (fun d' e σ' Ω' a W hr he hi => by
    cases e with
    | normal => exact hr Q hQ a W he hi
    | exit id => exact hQ _ _ σ' Ω' a W hr he hi
    | goto l => exact hQ _ _ σ' Ω' a W hr he hi
    | ret => exact hQ _ _ σ' Ω' a W hr he hi
    | panic ch => exact hQ _ _ σ' Ω' a W hr he hi
    | outgrown => exact hQ _ _ σ' Ω' a W hr he hi) a W he hi)
theorem VX.rs {id : Nat} {l : List Oper} {y : Code} (h : VO P n w0 l.toArray l σ Ω (fun σ' Ω' => VX P n w0 ρ y R d σ' Ω')) (hnd : noDefer l.toArray = true := by kernel_rfl) : VX P n w0 ρ (.seq (.region id l.toArray false) y) R d σ Ω :=
  VX.seq (VX.reg h hnd)
theorem VX.skip (h : R d .normal σ Ω) : VX P n w0 ρ .skip R d σ Ω := fun _ hQ a W he hi => wpIn_skip (hQ _ _ σ Ω a W h he hi)
theorem VX.exit {id : Nat} (h : R d (.exit id) σ Ω) : VX P n w0 ρ (.exit id) R d σ Ω := fun _ hQ a W he hi => wpIn_exit (hQ _ _ σ Ω a W h he hi)
theorem VX.ret (h : R d .ret σ Ω) : VX P n w0 ρ .ret R d σ Ω := fun _ hQ a W he hi => wpIn_ret (hQ _ _ σ Ω a W h he hi)
theorem VX.block {id : Nat} {c : Code} (h : VX P n w0 ρ c (blkX id R) d σ Ω) : VX P n w0 ρ (.block id c) R d σ Ω :=
  fun Q hQ a W he hi => wpIn_block (h (Exit.inBlock id Q) (fun d' e σ' Ω' a W hr he hi => by
    cases e with
    | exit i =>
      show if i = id then Q .normal _ W else Q (.exit i) _ W
      change cond (Nat.beq i id) (R d' .normal) (R d' (.exit i)) σ' Ω' at hr
      cases hb : Nat.beq i id with
      | true =>
        rw [if_pos (Nat.eq_of_beq_eq_true hb)]
        rw [hb] at hr
        exact hQ _ _ σ' Ω' a W hr he hi
      | false =>
        rw [if_neg (Nat.ne_of_beq_eq_false hb)]
        rw [hb] at hr
        exact hQ _ _ σ' Ω' a W hr he hi
    | normal => exact hQ _ _ σ' Ω' a W hr he hi
    | goto l => exact hQ _ _ σ' Ω' a W hr he hi
    | ret => exact hQ _ _ σ' Ω' a W hr he hi
    | panic ch => exact hQ _ _ σ' Ω' a W hr he hi
    | outgrown => exact hQ _ _ σ' Ω' a W hr he hi) a W he hi)
theorem VX.condT {c : Operand} {x y : Code} (hc : ev σ c = some (.bool true)) (h : VX P n w0 ρ x R d σ Ω) : VX P n w0 ρ (.cond c x y) R d σ Ω :=
  fun Q hQ a W he hi => wpIn_cond_true (by rw [wd_eval]; exact he.eval hc) (h Q hQ a W he hi)
theorem VX.condF {c : Operand} {x y : Code} (hc : ev σ c = some (.bool false)) (h : VX P n w0 ρ y R d σ Ω) : VX P n w0 ρ (.cond c x y) R d σ Ω :=
  fun Q hQ a W he hi => wpIn_cond_false (by rw [wd_eval]; exact he.eval hc) (h Q hQ a W he hi)
theorem VX.condB {c : Operand} {x y : Code} {b : Bool} (hc : ev σ c = some (.bool b)) (h1 : b = true → VX P n w0 ρ x R d σ Ω) (h2 : b = false → VX P n w0 ρ y R d σ Ω) : VX P n w0 ρ (.cond c x y) R d σ Ω := by
  cases b
  · exact VX.condF hc (h2 rfl)
  · exact VX.condT hc (h1 rfl)
theorem VX.cond {c : Operand} {x y : Code} {p : Prop} [Decidable p] (hc : ev σ c = some (.bool (decide p))) (h1 : p → VX P n w0 ρ x R d σ Ω) (h2 : ¬ p → VX P n w0 ρ y R d σ Ω) : VX P n w0 ρ (.cond c x y) R d σ Ω :=
  VX.condB hc (fun h => h1 (of_decide_eq_true h)) (fun h => h2 (of_decide_eq_false h))
theorem VX.inv {c : Code} (Ω' : Ctx) (hs : ∀ W, Inv w0 Ω W → Inv w0 Ω' W) (h : VX P n w0 ρ c R d σ Ω') : VX P n w0 ρ c R d σ Ω :=
  fun Q hQ a W he hi => h Q hQ a W he (hs W hi)
theorem VX.esub {c : Code} (σ' : Env) (hs : Go.Proofs.Ytfaknkkaegjdaaa.esub σ' σ) (h : VX P n w0 ρ c R d σ' Ω) : VX P n w0 ρ c R d σ Ω :=
  fun Q hQ a W he hi => h Q hQ a W (he.sub hs) hi
theorem VX.gather {c : Code} (k : Nat) (ids : List Nat) {l : List Mem} (hg : cgets Ω ids = some l) (h : Seps (muns l) l → VX P n w0 ρ c R d σ ((k, muns l) :: cdels Ω ids)) : VX P n w0 ρ c R d σ Ω :=
  fun Q hQ a W he hi => h (hi.gather k hg).2 Q hQ a W he (hi.gather k hg).1
theorem VX.parts {c : Code} (i : Nat) (ids : List Nat) {m : Mem} {l : List Mem} (hm : cget Ω i = some m) (hl : Seps m l) (h : VX P n w0 ρ c R d σ (ids.zip l ++ cdel Ω i)) : VX P n w0 ρ c R d σ Ω :=
  VX.inv _ (fun W hW => hW.parts hm hl ids) h
theorem VX.loop {G : Type} {c : Code} (S : G → Env) (C : G → Ctx) (I : G → Prop) (μ : G → Nat) (g0 : G) (h0 : I g0) (h1 : To w0 (S g0) (C g0) σ Ω)
    (round : ∀ g, I g → VX P n w0 ρ c (thenX (fun d' σ' Ω' => d' = d ∧ ∃ g', I g' ∧ μ g' < μ g ∧ To w0 (S g') (C g') σ' Ω') R) d (S g) (C g)) : VX P n w0 ρ (.loop c) R d σ Ω :=
  fun Q hQ a W he hi => wpIn_loop (fun a W => ∃ k, ∃ g b, I g ∧ μ g = k ∧ EnvOk n (S g) b ∧ Inv w0 (C g) W ∧ a = wd b (dl d)) (fun a W => leastOf (fun k => ∃ g b, I g ∧ μ g = k ∧ EnvOk n (S g) b ∧ Inv w0 (C g) W ∧ a = wd b (dl d)))
    ⟨μ g0, g0, a, h0, rfl, he.sub h1.env, h1.inv W hi, rfl⟩ (by
    intro a W hI
    obtain ⟨hsp, hmin⟩ := leastOf_spec hI
    obtain ⟨g, b, hg, hm, he, hi, rfl⟩ := hsp
    refine round g hg _ (fun d' e σ' Ω' a' W' hr he hi => ?_) b W he hi
    cases e with
    | normal =>
      obtain ⟨rfl, g', hI', hlt, ht⟩ := hr
      have h2 : ∃ k, ∃ g b, I g ∧ μ g = k ∧ EnvOk n (S g) b ∧ Inv w0 (C g) W' ∧ wd a' (dl d') = wd b (dl d') := ⟨μ g', g', a', hI', rfl, he.sub ht.env, ht.inv W' hi, rfl⟩
      exact ⟨h2, Nat.lt_of_le_of_lt ((leastOf_spec h2).2 _ ⟨g', a', hI', rfl, he.sub ht.env, ht.inv W' hi, rfl⟩) (by omega)⟩
    | exit id => exact hQ _ _ σ' Ω' a' W' hr he hi
    | goto l => exact hQ _ _ σ' Ω' a' W' hr he hi
    | ret => exact hQ _ _ σ' Ω' a' W' hr he hi
    | panic ch => exact hQ _ _ σ' Ω' a' W' hr he hi
    | outgrown => exact hQ _ _ σ' Ω' a' W' hr he hi)
end
section
variable {P : Program} {n : Nat} {w0 : World} {σ : Env} {Ω : Ctx} {ρ d : Option Nat} {R : Option Nat → Exit → Env → Ctx → Prop}
theorem VX.regD {id : Nat} {l : List Oper} (ΩS : Ctx) (t : Nat) (sched : List (Nat × Bool)) (hm : P.follows .mixedOrders = true) (hs : okSched l.toArray t sched = true) (hΩ : ∀ W, Inv w0 Ω W → Inv w0 ΩS W)
    (h : VD P n w0 l.toArray ΩS t sched σ Ω (R d .normal)) (hnd : noDefer l.toArray = true := by kernel_rfl) : VX P n w0 ρ (.region id l.toArray true) R d σ Ω :=
  fun Q hQ a W he hi => by
    unfold okSched at hs
    simp only [Bool.and_eq_true, Bool.or_eq_true] at hs
    obtain ⟨⟨⟨h0, h1⟩, h2⟩, h3⟩ := hs
    have h4 : t < l.toArray.size → Region.sinkB .any l.toArray t = true ∧ Region.chainB .any l.toArray t = true := fun hlt => by
      rcases h2 with h2 | h2
      · have := Nat.le_of_ble_eq_true h2; omega
      · exact h2
    let Q' : Exit → Act → World → Prop := fun e a w => e = .normal ∧ ∃ σ' Ω', R d .normal σ' Ω' ∧ EnvOk n σ' a ∧ Inv w0 Ω' w
    have := h Q' (fun _ _ _ hq => by cases hq.1) (fun σ' Ω' a W hk he hi => ⟨rfl, σ', Ω', hk, he, hi⟩) (Array.replicate l.toArray.size false) a W.drew he hi.drew (hΩ W hi).drew.cur h3 (HeadInv.start _ _) h1 h4
    rw [Nat.eq_of_beq_eq_true h0] at this
    have hA := wpAny_of_T (S := fun L w => Inv w0 (curS l.toArray ΩS L) w) (t := t) _ _ _ _ this
    refine wpIn_region_draw fun t' => ops_in hnd (Q := Q') (fun _ _ _ q => by cases q.1) (fun _ _ q => by cases q.1) (fun a w ⟨_, σ', Ω', hk, he, hi⟩ => hQ _ _ σ' Ω' a w hk he hi) _ a _ ?_
    simp only [Region.schedule, hm, Bool.true_or, if_true]
    exact wpAny_sound _ t' _ a _ hA
end
def YldR (P : Program) (l : Nat) (args : List Value) (W : World) (m : Mem) (Post : Value → Mem → Prop) : Prop :=
  YieldAt Fence.wide 0 P l args.toArray W fun e W' => ∃ v m', e = .returned v ∧ Post v m' ∧ Upd W m W' m'
section
variable (P : Program) (n : Nat) (w0 : World)
/-- Operations of which one may call yield (outside rounds, without marks). -/
def VL (ops : Array Oper) (l : List Nat) (σ : Env) (Ω : Ctx) (K : Env → Ctx → Prop) : Prop :=
  ∀ Q : Exit → Act → World → Prop, (∀ σ' Ω' a W, K σ' Ω' → EnvOk n σ' a → Inv w0 Ω' W → Q .normal a W) → ∀ a W, EnvOk n σ a → Inv w0 Ω W → wpOpsIn (fen none) 0 P ops Q l a W
end
section
variable {P : Program} {n : Nat} {w0 : World} {σ : Env} {Ω : Ctx} {ops : Array Oper} {K : Env → Ctx → Prop} {R : Option Nat → Exit → Env → Ctx → Prop}
theorem ops_pre {Q Q' : Exit → Act → World → Prop} (hd : noDefer ops = true) (hp : ∀ c a w, ¬ Q (.panic c) a w) (ho : ∀ a w, ¬ Q .outgrown a w) {r : List Nat}
    (hQ : ∀ a w, Q .normal a w → wpOpsIn (fen none) 0 P ops Q' r a w) : ∀ (l : List Nat) (a : Act) (w : World), wpOps P ops Q l a w → wpOpsIn (fen none) 0 P ops Q' (l ++ r) a w
  | [], a, w, h => hQ a w h
  | i :: rest, a, w, h => by
    have ih := ops_pre hd hp ho hQ rest
    simp only [wpOps] at h
    simp only [wpOpsIn, List.cons_append]
    cases hi : ops[i]? with
    | none => rw [hi] at h; exact ih a w h
    | some o =>
      rw [hi] at h
      dsimp only at h ⊢
      by_cases hw : Region.wanted o (yielded ops a.tmps) = true
      · rw [if_pos hw] at h ⊢
        have h := h.resolve_right fun q => by obtain ⟨a', w', hq⟩ := q.2; exact ho _ _ hq
        refine ⟨fun _ _ => trivial, ?_⟩
        rw [show (fen none).round = none from rfl, Oper.semAt_none]
        unfold Oper.wp at h
        generalize (execOp a.eval o).run P w = q at h ⊢
        cases q with
        | ok n w' =>
          cases n with
          | value v => exact ih _ _ h
          | skip => exact ih _ _ h
          | enter f args =>
            refine ⟨fun q => (by cases q), CallsIn.mono (callsIn_wide.2 h) ?_⟩
            intro e w'' hr
            cases e with
            | returned v => exact ih _ _ hr
            | panicked c => exact absurd hr (hp _ _ _)
            | outgrown => obtain ⟨a', w3, hq⟩ := hr; exact absurd hq (ho _ _)
          | row row args => exact ⟨fun q => (by cases q), RowsIn.mono (rows_in (ρ := none) h) fun v w'' hr => ih _ _ hr⟩
          | defer d => exact ih _ _ h
          | _ => exact h.elim
        | halt e w' =>
          cases e with
          | panic v => exact absurd h (hp _ _ _)
          | _ => exact h.elim
      · rw [if_neg hw] at h ⊢
        exact ⟨fun _ _ => trivial, ih _ _ h⟩
theorem VL.of {l : List Oper} (k : Nat) (hl : ∀ j o, l[j]? = some o → ops[k + j]? = some o) (hd : noDefer ops = true) {r : List Nat} (h : VO P n w0 ops l σ Ω (fun σ' Ω' => VL P n w0 ops r σ' Ω' K)) : VL P n w0 ops (List.range' k l.length ++ r) σ Ω K :=
  fun Q hQ a W he hi => ops_pre hd (Q := fun e a W => e = .normal ∧ ∃ σ' Ω', VL P n w0 ops r σ' Ω' K ∧ EnvOk n σ' a ∧ Inv w0 Ω' W) (fun _ _ _ q => by cases q.1) (fun _ _ q => by cases q.1) (fun a W ⟨_, σ', Ω', hk, he, hi⟩ => hk Q hQ a W he hi) _ a W (wpOps_list l k a W hl (h.ops he hi))
theorem VL.nil (h : K σ Ω) : VL P n w0 ops [] σ Ω K := fun _ hQ a W he hi => hQ σ Ω a W h he hi
theorem VL.yield {i : Nat} {r : List Nat} {d : Nat} {x : Operand} {xs : List Operand} {ats : Array TypeId} {ty : TypeId} {pos : String} {af : Array Edge} {gd : Option (Nat × Bool)} {l : Nat} {vs : List Value} {m : Mem} {Post : Value → Mem → Prop} (c : Nat)
    (ho : ops[i]? = some ⟨some d, .call { callee := .value x, args := xs.toArray, argTypes := ats }, ty, pos, af, gd⟩) (hd : Nat.blt d n = true) (hg : gd = none ∨ ∃ j b, gd = some (j, b) ∧ gyes σ ops j b) (hx : ev σ x = some (.func (.yield l) #[] #[]))
    (ha : evs σ xs = some vs) (hm : cget Ω c = some m) (hy : ∀ W, Inv w0 Ω W → YldR P l vs W m Post) (h : ∀ v m', Post v m' → VL P n w0 ops r ((d, v) :: σ) (cset Ω c m') K) : VL P n w0 ops (i :: r) σ Ω K :=
  fun Q hQ a W he hi => by
    unfold wpOpsIn
    rw [ho]
    dsimp only
    have hw : Region.wanted ⟨some d, .call { callee := .value x, args := xs.toArray, argTypes := ats }, ty, pos, af, gd⟩ (yielded ops a.tmps) = true := by
      rcases hg with rfl | ⟨j, b, rfl, hj⟩
      · rfl
      · simp [Region.wanted, yielded_of he hj]
    rw [if_pos hw]
    refine ⟨fun _ _ => trivial, ?_⟩
    rw [show (fen none).round = none from rfl, Oper.semAt_none]
    obtain ⟨fn, tmps, assign, body, h1, h2⟩ := hy W hi
    have e : execOp a.eval ⟨some d, .call { callee := .value x, args := xs.toArray, argTypes := ats }, ty, pos, af, gd⟩ = Instr.yield l vs.toArray := by
      have e1 : a.eval x = .func (.yield l) #[] #[] := he.eval hx
      have e2 : #[] ++ xs.toArray.map a.eval ++ #[] = vs.toArray := by rw [← he.evals ha]; simp
      rw [← e2]
      show (do let d ← Deferred.ofValue (a.eval x) (xs.toArray.map a.eval); invoke d.target d.args) = _
      rw [e1]; rfl
    rw [e, h1]
    refine ⟨fun q => (by cases q), RoundIn.mono h2 ?_⟩
    rintro e' W' ⟨v, m', rfl, hp, hu⟩
    exact h v m' hp Q hQ _ W' (he.put hd v) (hi.upd hm hu)
theorem VL.skip {i : Nat} {r : List Nat} {d : Nat} {op : Op} {ty : TypeId} {pos : String} {af : Array Edge} {j : Nat} {b : Bool} (ho : ops[i]? = some ⟨some d, op, ty, pos, af, some (j, b)⟩) (hd : Nat.blt d n = true) (hg : gyes σ ops j (!b)) (h : VL P n w0 ops r ((d, undef) :: σ) Ω K) : VL P n w0 ops (i :: r) σ Ω K :=
  fun Q hQ a W he hi => by
    unfold wpOpsIn
    rw [ho]
    dsimp only
    have hw : ¬ Region.wanted ⟨some d, op, ty, pos, af, some (j, b)⟩ (yielded ops a.tmps) = true := by
      simp [Region.wanted, yielded_of he hg]
    rw [if_neg hw]
    exact ⟨fun _ _ => trivial, h Q hQ _ W (he.put hd _) hi⟩
end
theorem Inv.hd {w0 W : World} {Ω : Ctx} {i : Nat} {m : Mem} (h : Inv w0 ((i, m) :: Ω) W) : mle m (wm W) ∧ (∀ p ∈ Ω, mdj m p.2) ∧ Inv w0 Ω W :=
  ⟨h.le _ (.head _), (List.pairwise_cons.1 h.dj).1, h.tl⟩
theorem Inv.move {w0 W W' : World} {Ω : Ctx} (h : Inv w0 Ω W) (ho : W'.os = W.os) (ht : W'.tape = W.tape) (hu : W'.output = W.output) (hs : W.heap.size ≤ W'.heap.size) (hl : ∀ p ∈ Ω, mle p.2 (wm W')) : Inv w0 Ω W' :=
  ⟨ho.trans h.os, ht.trans h.tape, hu.trans h.output, Nat.le_trans h.size hs, hl, h.dj⟩
section
variable {P : Program} {n : Nat} {w0 : World} {σ : Env} {Ω : Ctx} {K : Env → Ctx → Prop} {R : Option Nat → Exit → Env → Ctx → Prop}
theorem VL.pre {l0 : List Oper} (k : Nat) {r : List Nat} (hd : noDefer l0.toArray = true) (h : VO P n w0 l0.toArray (l0.take k) σ Ω (fun σ' Ω' => VL P n w0 l0.toArray r σ' Ω' K)) : VL P n w0 l0.toArray (List.range' 0 (l0.take k).length ++ r) σ Ω K :=
  VL.of 0 (fun j o h' => by
    have hj : j < k := by
      rcases Nat.lt_or_ge j k with q | q
      · exact q
      · rw [List.getElem?_eq_none (by rw [List.length_take]; omega)] at h'; cases h'
    rw [List.getElem?_take_of_lt hj] at h'
    simpa using h') hd h
theorem VL.post {l0 : List Oper} (k : Nat) {r : List Nat} (hr : List.range' k (l0.drop k).length = r) (hd : noDefer l0.toArray = true) (h : VO P n w0 l0.toArray (l0.drop k) σ Ω K) : VL P n w0 l0.toArray r σ Ω K := by
  have := VL.of (P := P) (n := n) (w0 := w0) (σ := σ) (Ω := Ω) (K := K) (ops := l0.toArray) (l := l0.drop k) (r := []) k (fun j o h' => by rw [List.getElem?_drop] at h'; simpa using h') hd
    (fun Q hQ a W he hi => h Q (fun σ' Ω' a W hk he hi => hQ σ' Ω' a W (VL.nil hk) he hi) a W he hi)
  rw [List.append_nil, hr] at this
  exact this
end
end
section
theorem Inv.sbK {w0 W : World} {Ω ΩS : Ctx} (l : List Nat) (h : Inv w0 Ω W) (e : csub Ω l = ΩS := by kernel_rfl) : Inv w0 ΩS W := e ▸ h.sub l
theorem VD.kp {P : Program} {n : Nat} {w0 : World} {σ : Env} {Ω ΩS : Ctx} {ops : Array Oper} {K : Env → Ctx → Prop} {t : Nat} {l : List (Nat × Bool)} (ids : List Nat) (Ω' : Ctx) (h : VD P n w0 ops ΩS t l σ Ω' K) (hk : csub Ω ids = Ω' := by kernel_rfl) : VD P n w0 ops ΩS t l σ Ω K :=
  VD.inv _ (fun W hW => hk ▸ hW.sub ids) h
section
variable (P : Program) (n : Nat) (w0 : World)
def VE (ops : Array Oper) (ΩS : Ctx) (t : Nat) (listed : Array Bool) (m : Nat) (σ : Env) (Ω : Ctx) (K : Env → Ctx → Prop) : Prop :=
  ∀ Q : Exit → Act → World → Prop, (∀ c a w, ¬ Q (.panic c) a w) → (∀ σ' Ω' a W, K σ' Ω' → EnvOk n σ' a → Inv w0 Ω' W → Q .normal a W) →
    ∀ a W, EnvOk n σ a → Inv w0 Ω W → Inv w0 (curS ops ΩS listed) W → HeadInv .any ops t listed → Region.noSelect ops = true → (t < ops.size → Region.sinkB .any ops t = true ∧ Region.chainB .any ops t = true) → wpAnyT P ops Q (fun L w => Inv w0 (curS ops ΩS L) w) t (m + (ops.size - t)) listed a W
end
section
variable {P : Program} {n : Nat} {w0 : World} {σ : Env} {Ω ΩS : Ctx} {ops : Array Oper} {t : Nat} {K : Env → Ctx → Prop}
theorem VE.y {listed : Array Bool} {m : Nat} (i : Nat) {d : Nat} {op : Op} {ty : TypeId} {pos : String} {af : Array Edge} {gd : Option (Nat × Bool)} {v : Value} (hd : Nat.blt d n = true) (ho : ops[i]? = some ⟨some d, op, ty, pos, af, gd⟩)
    (hg : gd = none ∨ ∃ j b, gd = some (j, b) ∧ gyes σ ops j b) (hk : (Nat.blt i t && (Region.ready .any ops listed).contains i && Region.free .any ops listed i) = true) (hy : Yld P n w0 σ (lowS ΩS) ⟨some d, op, ty, pos, af, gd⟩ v) (h : VE P n w0 ops ΩS t (listed.setIfInBounds i true) m ((d, v) :: σ) Ω K) : VE P n w0 ops ΩS t listed (m + 1) σ Ω K :=
  fun Q hn hQ a W he hi hiS hh hsel hsc => by
    simp only [Bool.and_eq_true] at hk
    obtain ⟨⟨hit, hr⟩, hf⟩ := hk
    have hit' : i < t := by simpa using hit
    have hr' : i ∈ Region.ready .any ops listed := by simpa using hr
    have hyi : YieldsIf P ops (Inv w0 (lowS ΩS)) ⟨some d, op, ty, pos, af, gd⟩ v a := by
      refine .inl ⟨?_, fun w hw => hy a w he hw⟩
      rcases hg with rfl | ⟨j, b, rfl, hg⟩
      · simp [Region.wanted]
      · simp [Region.wanted, yielded_of he hg]
    rw [show m + 1 + (ops.size - t) = (m + (ops.size - t)) + 1 by omega]
    have hns : isSt ops i = false := by unfold isSt; rw [ho]
    exact wpAnyT_first ho hit' (Nat.lt_or_ge t ops.size) (Region.noSelect_spec hsel) (fun _ _ _ _ q => q.curLow) (fun L w => by rw [curS_set hns]) (fun c a w hq => absurd hq (hn c _ w)) (fun h => (hsc h).1) (fun h => (hsc h).2) _ listed a W hh (Region.free_spec ho hf) hr' hyi hiS
      (h Q hn hQ _ W (he.put hd v) hi (by rw [curS_set hns]; exact hiS) (hh.set hr' hit') hsel hsc)
def AllL {α : Type} (p : α → Prop) : List α → Prop
  | [] => True
  | a :: r => p a ∧ AllL p r
theorem AllL.mem {α : Type} {p : α → Prop} : ∀ {l : List α}, AllL p l → ∀ a ∈ l, p a
  | _ :: _, ⟨h, _⟩, _, .head _ => h
  | _ :: _, ⟨_, h⟩, _, .tail _ ha => h.mem _ ha
def regEB (ops : Array Oper) (t : Nat) : Bool := Nat.ble t ops.size && Region.noSelect ops && (Nat.ble ops.size t || (Region.sinkB .any ops t && Region.chainB .any ops t))
theorem VE.start {l : List Oper} (ΩS : Ctx) (t : Nat) (hs : regEB l.toArray t = true) (hΩ : ∀ W, Inv w0 Ω W → Inv w0 ΩS W) (h : VE P n w0 l.toArray ΩS t (Array.replicate l.toArray.size false) t σ Ω K) (Q : Exit → Act → World → Prop) (hn : ∀ c a w, ¬ Q (.panic c) a w)
    (hQ : ∀ σ' Ω' a W, K σ' Ω' → EnvOk n σ' a → Inv w0 Ω' W → Q .normal a W) (a : Act) (W : World) (he : EnvOk n σ a) (hi : Inv w0 Ω W) : wpAny P .any l.toArray Q l.toArray.size (Array.replicate l.toArray.size false) a W := by
  simp only [regEB, Bool.and_eq_true, Bool.or_eq_true] at hs
  obtain ⟨⟨h0, h1⟩, h2⟩ := hs
  have hle := Nat.le_of_ble_eq_true h0
  have := h Q hn hQ a W he hi (hΩ W hi).cur (HeadInv.start _ _) h1 (fun hlt => by
    rcases h2 with h2 | h2
    · have := Nat.le_of_ble_eq_true h2; omega
    · exact h2)
  rw [show t + (l.toArray.size - t) = l.toArray.size by omega] at this
  exact wpAny_of_T _ _ _ _ this
theorem VC.regE {id : Nat} {l : List Oper} {R : Exit → Env → Ctx → Prop} (ΩS : Ctx) (t : Nat) (hm : P.follows .mixedOrders = true) (hs : regEB l.toArray t = true) (hΩ : ∀ W, Inv w0 Ω W → Inv w0 ΩS W)
    (h : VE P n w0 l.toArray ΩS t (Array.replicate l.toArray.size false) t σ Ω (R .normal)) : VC P n w0 (.region id l.toArray true) R σ Ω :=
  fun Q hQ a W he hi => by
    let Q' : Exit → Act → World → Prop := fun e a w => match e with | .normal => Q .normal a w | _ => False
    refine wp_mono (Q := Q') ?_ (fun e a w hq => by cases e <;> first | exact hq | exact hq.elim)
    exact wp_region_any hm (h.start ΩS t hs hΩ Q' (fun _ _ _ hq => hq) (fun σ' Ω' a W hk => hQ _ σ' Ω' a W hk) a W.drew he hi.drew)
theorem VX.regE {id : Nat} {l : List Oper} {ρ d : Option Nat} {R : Option Nat → Exit → Env → Ctx → Prop} (ΩS : Ctx) (t : Nat) (hm : P.follows .mixedOrders = true) (hs : regEB l.toArray t = true) (hΩ : ∀ W, Inv w0 Ω W → Inv w0 ΩS W)
    (h : VE P n w0 l.toArray ΩS t (Array.replicate l.toArray.size false) t σ Ω (R d .normal)) (hnd : noDefer l.toArray = true := by kernel_rfl) : VX P n w0 ρ (.region id l.toArray true) R d σ Ω :=
  fun Q hQ a W he hi => by
    let Q' : Exit → Act → World → Prop := fun e a w => e = .normal ∧ ∃ σ' Ω', R d .normal σ' Ω' ∧ EnvOk n σ' a ∧ Inv w0 Ω' w
    have hA := h.start ΩS t hs hΩ Q' (fun _ _ _ hq => by cases hq.1) (fun σ' Ω' a W hk he hi => ⟨rfl, σ', Ω', hk, he, hi⟩) a W.drew he hi.drew
    refine wpIn_region_draw fun t' => ops_in hnd (Q := Q') (fun _ _ _ q => by cases q.1) (fun _ _ q => by cases q.1) (fun a w ⟨_, σ', Ω', hk, he, hi⟩ => hQ _ _ σ' Ω' a w hk he hi) _ a _ ?_
    simp only [Region.schedule, hm, Bool.true_or, if_true]
    exact wpAny_sound _ t' _ a _ hA
end
end
section
section
variable {P : Program} {n : Nat} {w0 : World} {σ : Env} {Ω ΩS : Ctx} {ops : Array Oper} {K : Env → Ctx → Prop}
theorem VD.store {tt q : Nat} {ss : List (Nat × Bool)} {ty : TypeId} {pos : String} {af : Array Edge} {t : TypeId} {x y : Operand} {g off : Nat} {v : Value} {k : Nat} (i : Nat) {c : Array Value} {E : TypeId} {c' : List Value}
    (ho : ops[q]? = some ⟨none, .store t x y, ty, pos, af, none⟩)
    (hx : ev σ x = some (.pointer (some ⟨g, off, none⟩))) (hy : ev σ y = some v) (ht : tk P t = some (some k) ∨ (tk P t = some none ∧ k = 1)) (hk : Nat.beq v.cells.size k = true) (hn : nice v = true)
    (hm : cget Ω i = some (mone g (.cells c E (0, 0)))) (hl : Nat.ble (off + k) c.size = true) (hc : splice c.toList off v.cells.toList = c')
    (hS : ∀ W, Inv w0 (cset Ω i (mone g (.cells c'.toArray E (0, 0)))) W → Inv w0 ΩS W)
    (h : VD P n w0 ops ΩS tt ss σ (cset Ω i (mone g (.cells c'.toArray E (0, 0)))) K) : VD P n w0 ops ΩS tt ((q, false) :: ss) σ Ω K :=
  VD.s (fun _ => σ) ho (fun _ _ he => he) (.inl rfl) (Stp.store i hx hy ht hk hn hm (mone_self _ _) hl) (fun _ _ ⟨_, hΩ⟩ W hW => hS W (by rw [hΩ, mset_one, hc] at hW; exact hW)) (fun _ _ ⟨_, hΩ⟩ => by rw [hΩ, mset_one, hc]; exact h)
end
/-- what a slice of one's own was, is still to be read -/
def KeptA (sz : Nat) (m : Mem) (v : Value) (len : Nat) (cs : List Value) : Prop := ∃ A cap, v = .slice A len cap ∧ len ≤ cap ∧ cap ≤ maxLen ∧ ((len = 0 ∧ cs = []) ∨ ∃ g off, A = some ⟨g, off, none⟩ ∧ cellsAt m g off (len * sz) cs)
theorem KeptA.rd {e : Ty} {m : Mem} {A : Option Addr} {c : Nat} {cs : List Value} {xs : List e.Den} (h : KeptA e.sz m (.slice A xs.length c) xs.length cs) (hc : All2c (Rd e m) cs xs) : Rd (.sl e) m [.slice A xs.length c] xs := by
  obtain ⟨A', c', h1, h2, h3, h4⟩ := h
  simp only [Value.slice.injEq, true_and] at h1
  obtain ⟨rfl, rfl⟩ := h1
  refine ⟨_, _, rfl, h2, h3, ?_⟩
  rcases h4 with ⟨h4, _⟩ | ⟨g, off, h4, h5⟩
  · exact .inl h4
  · exact .inr ⟨g, off, cs, h4, h5, hc⟩
end
section
set_option linter.unusedVariables false
section
variable (P : Program) (n : Nat) (w0 : World)
/-- operation i comes up next (m more, and the tail, behind it) -/
def VI (ops : Array Oper) (ΩS : Ctx) (t : Nat) (listed : Array Bool) (m i : Nat) (σ : Env) (Ω : Ctx) (K : Env → Ctx → Prop) : Prop :=
  ∀ Q : Exit → Act → World → Prop, (∀ c a w, ¬ Q (.panic c) a w) → (∀ σ' Ω' a W, K σ' Ω' → EnvOk n σ' a → Inv w0 Ω' W → Q .normal a W) →
    ∀ a W, EnvOk n σ a → Inv w0 Ω W → HeadInv .any ops t listed → Region.noSelect ops = true → (t < ops.size → Region.sinkB .any ops t = true ∧ Region.chainB .any ops t = true) → i ∈ Region.ready .any ops listed → i < t →
    wpOp P ops Q i (fun a' w' => (i < t → Inv w0 (curS ops ΩS (listed.setIfInBounds i true)) w') ∧ wpAnyT P ops Q (fun L w => Inv w0 (curS ops ΩS L) w) t (m + (ops.size - t)) (listed.setIfInBounds i true) a' w') a W
end
section
variable {P : Program} {n : Nat} {w0 : World} {σ : Env} {Ω ΩS : Ctx} {ops : Array Oper} {t : Nat} {K : Env → Ctx → Prop} {listed : Array Bool} {m : Nat}
def nextB (ops : Array Oper) (t : Nat) (listed : Array Bool) (is : List Nat) : Bool := Region.ready .any ops listed == is && is.all (fun i => Nat.blt i t) && !is.isEmpty
theorem VE.tree (is : List Nat) (hr : nextB ops t listed is = true) (h : AllL (fun i => VI P n w0 ops ΩS t listed m i σ Ω K) is) : VE P n w0 ops ΩS t listed (m + 1) σ Ω K :=
  fun Q hn hQ a W he hi hiS hh hsel hsc => by
    simp only [nextB, Bool.and_eq_true, beq_iff_eq, List.all_eq_true, Bool.not_eq_true'] at hr
    obtain ⟨⟨h1, h2⟩, h3⟩ := hr
    rw [show m + 1 + (ops.size - t) = (m + (ops.size - t)) + 1 by omega]
    refine ⟨fun h0 => (by rw [h1] at h0; rw [h0] at h3; cases h3), fun j hj => ?_⟩
    have hj' := hj
    rw [h1] at hj'
    exact h.mem j hj' Q hn hQ a W he hi hh hsel hsc hj (by simpa using h2 j hj')
theorem VE.nil {l : List Oper} (ho : okHead.okTail ops (ops.size - t) t listed = true) (hl : ops.toList.drop t = l) (h : VO P n w0 ops l σ Ω K) (ht : Nat.ble t ops.size = true) : VE P n w0 ops ΩS t listed 0 σ Ω K :=
  fun Q _ hQ a W he hi _ hh _ _ => by
    have htl := Nat.le_of_ble_eq_true ht
    subst hl
    have := wpAnyT_tail (P := P) (Q := Q) (S := fun L w => Inv w0 (curS ops ΩS L) w) (ops.size - t) t listed a W ho (Nat.le_refl _) (by omega) (h Q hQ a W he hi)
    simpa using this
theorem VE.inv (Ω' : Ctx) (hs : ∀ W, Inv w0 Ω W → Inv w0 Ω' W) (h : VE P n w0 ops ΩS t listed m σ Ω' K) : VE P n w0 ops ΩS t listed m σ Ω K :=
  fun Q hn hQ a W he hi => h Q hn hQ a W he (hs W hi)
theorem VI.inv {i : Nat} (Ω' : Ctx) (hs : ∀ W, Inv w0 Ω W → Inv w0 Ω' W) (h : VI P n w0 ops ΩS t listed m i σ Ω' K) : VI P n w0 ops ΩS t listed m i σ Ω K :=
  fun Q hn hQ a W he hi => h Q hn hQ a W he (hs W hi)
theorem VE.gather (k : Nat) (ids : List Nat) {l : List Mem} (hg : cgets Ω ids = some l) (h : Seps (muns l) l → VE P n w0 ops ΩS t listed m σ ((k, muns l) :: cdels Ω ids) K) : VE P n w0 ops ΩS t listed m σ Ω K :=
  fun Q hn hQ a W he hi => h (hi.gather k hg).2 Q hn hQ a W he (hi.gather k hg).1
theorem VI.gather {i : Nat} (k : Nat) (ids : List Nat) {l : List Mem} (hg : cgets Ω ids = some l) (h : Seps (muns l) l → VI P n w0 ops ΩS t listed m i σ ((k, muns l) :: cdels Ω ids) K) : VI P n w0 ops ΩS t listed m i σ Ω K :=
  fun Q hn hQ a W he hi => h (hi.gather k hg).2 Q hn hQ a W he (hi.gather k hg).1
theorem VE.kp (ids : List Nat) (Ω' : Ctx) (h : VE P n w0 ops ΩS t listed m σ Ω' K) (hk : csub Ω ids = Ω' := by kernel_rfl) : VE P n w0 ops ΩS t listed m σ Ω K :=
  VE.inv _ (fun W hW => hk ▸ hW.sub ids) h
theorem VI.s {i : Nat} {o : Oper} {Φ : Value → Ctx → Prop} (σ' : Value → Env) (ho : ops[i]? = some o) (hσ : ∀ v a, EnvOk n σ a → EnvOk n (σ' v) (a.put o.dst v))
    (hg : o.guard = none ∨ ∃ j b, o.guard = some (j, b) ∧ gyes σ ops j b) (hs : Stp P n w0 σ Ω o Φ) (hS : ∀ v Ω', Φ v Ω' → ∀ W, Inv w0 Ω' W → Inv w0 ΩS W)
    (h : ∀ v Ω', Φ v Ω' → VE P n w0 ops ΩS t (listed.setIfInBounds i true) m (σ' v) Ω' K) : VI P n w0 ops ΩS t listed m i σ Ω K :=
  fun Q hn hQ a W he hi hh hsel hsc hr' hit' => by
    unfold wpOp
    simp only [ho]
    have hw : Region.wanted o (yielded ops a.tmps) = true := by
      rcases hg with hg | ⟨k, b, hg, hy⟩
      · simp [Region.wanted, hg]
      · simp [Region.wanted, hg, yielded_of he hy]
    rw [if_pos hw]
    exact .inl (hs a W he hi _ Q fun v Ω' W' hv hi' => ⟨fun _ => (hS v Ω' hv W' hi').cur, h v Ω' hv Q hn hQ _ W' (hσ v a he) hi' (hS v Ω' hv W' hi').cur (hh.set hr' hit') hsel hsc⟩)
theorem VI.callN {i : Nat} {listed : Array Bool} {mm : Nat} {d : Nat} {f : FuncId} {xs : List Operand} {ats : Array TypeId} {ty : TypeId} {pos : String} {af : Array Edge} {gd : Option (Nat × Bool)} {vs : List Value} {Post : Value → Mem → Prop}
    (j : Nat) (hd : Nat.blt d n = true) (ho : ops[i]? = some ⟨some d, .call { callee := .value (.func f), args := xs.toArray, argTypes := ats }, ty, pos, af, gd⟩) (hg : gd = none ∨ ∃ j b, gd = some (j, b) ∧ gyes σ ops j b) (hf : fnOk P f = true)
    (ha : evs σ xs = some vs) (hS : ∀ W, Inv w0 Ω W → Inv w0 ΩS W) (hc : ∀ W, Inv w0 Ω W → CallR P f vs W mnil Post) (h : ∀ v m', Post v m' → VE P n w0 ops ΩS t (listed.setIfInBounds i true) mm ((d, v) :: σ) ((j, m') :: Ω) K) : VI P n w0 ops ΩS t listed mm i σ Ω K :=
  VI.s (fun v => (d, v) :: σ) ho (fun v _ he => he.put hd v) hg (Stp.callN j hf ha hc) (fun _ _ ⟨_, _, hΩ⟩ W hW => hS W (by subst hΩ; exact hW.tl)) (fun v _ ⟨m', hp, hΩ⟩ => hΩ ▸ h v m' hp)
theorem VI.call {t : Nat} {i : Nat} {listed : Array Bool} {mm : Nat} {d : Nat} {f : FuncId} {xs : List Operand} {ats : Array TypeId} {ty : TypeId} {pos : String} {af : Array Edge} {gd : Option (Nat × Bool)} {vs : List Value} {Post : Value → Mem → Prop}
    (j : Nat) {m : Mem} (hd : Nat.blt d n = true) (ho : ops[i]? = some ⟨some d, .call { callee := .value (.func f), args := xs.toArray, argTypes := ats }, ty, pos, af, gd⟩) (hg : gd = none ∨ ∃ j b, gd = some (j, b) ∧ gyes σ ops j b) (hf : fnOk P f = true)
    (ha : evs σ xs = some vs) (hm : cget Ω j = some m) (hS : ∀ m' W, Inv w0 (cset Ω j m') W → Inv w0 ΩS W) (hc : ∀ W, Inv w0 Ω W → CallR P f vs W m Post) (h : ∀ v m', Post v m' → VE P n w0 ops ΩS t (listed.setIfInBounds i true) mm ((d, v) :: σ) (cset Ω j m') K) : VI P n w0 ops ΩS t listed mm i σ Ω K :=
  VI.s (fun v => (d, v) :: σ) ho (fun v _ he => he.put hd v) hg (Stp.call j hf ha hm hc) (fun _ _ ⟨m', _, hΩ⟩ W hW => hS m' W (by subst hΩ; exact hW)) (fun v _ ⟨m', hp, hΩ⟩ => hΩ ▸ h v m' hp)
theorem VI.bsl {i : Nat} {ty : TypeId} {pos : String} {af : Array Edge} {listed : Array Bool} {mm : Nat} {dd : Nat} {t' e : TypeId} {s b len : Nat} {l : List (Nat × Operand)} {ps : List (Nat × Value)} {z cs : List Value} (j : Nat) (hd : Nat.blt dd n = true) (ho : ops[i]? = some ⟨some dd, .buildSlice t' len l.toArray, ty, pos, af, none⟩)
    (hl : evp σ l = some ps) (ht : tsl P t' = some (e, s, b)) (hz : tz P e = some z)
    (hsmall : Nat.ble (len * s) 16777216 = true) (hb : bld (fun i => some (i * s, s)) ((List.range (len * s)).map fun j => z.toArray[j % z.toArray.size]!) ps = some cs) (hS : ∀ W, Inv w0 Ω W → Inv w0 ΩS W)
    (h : ∀ g, VE P n w0 ops ΩS t (listed.setIfInBounds i true) mm ((dd, .slice (some ⟨g, 0, none⟩) len len) :: σ) ((j, mone g (.cells cs.toArray e (0, 0))) :: Ω) K) : VI P n w0 ops ΩS t listed mm i σ Ω K :=
  VI.s (fun v => (dd, v) :: σ) ho (fun v _ he => he.put hd v) (.inl rfl) (Stp.bsl j hl ht hz hsmall hb) (fun _ _ ⟨_, _, hΩ⟩ W hW => hS W (by subst hΩ; exact hW.tl)) (fun _ _ ⟨g, hv, hΩ⟩ => hv ▸ hΩ ▸ h g)
theorem VI.alloc {tt i : Nat} {listed : Array Bool} {mm : Nat} {dd : Nat} {t : TypeId} {ty : TypeId} {pos : String} {af : Array Edge} {z : List Value} (j : Nat) (hd : Nat.blt dd n = true) (ho : ops[i]? = some ⟨some dd, .alloc t, ty, pos, af, none⟩) (hz : tz P t = some z) (hS : ∀ g W, Inv w0 ((j, mone g (.cells z.toArray t (0, 0))) :: Ω) W → Inv w0 ΩS W)
    (h : ∀ g, VE P n w0 ops ΩS tt (listed.setIfInBounds i true) mm ((dd, .pointer (some ⟨g, 0, none⟩)) :: σ) ((j, mone g (.cells z.toArray t (0, 0))) :: Ω) K) : VI P n w0 ops ΩS tt listed mm i σ Ω K :=
  VI.s (fun v => (dd, v) :: σ) ho (fun v _ he => he.put hd v) (.inl rfl) (Stp.alloc j hz) (fun _ _ ⟨g, _, hΩ⟩ W hW => hS g W (by subst hΩ; exact hW)) (fun _ _ ⟨g, hv, hΩ⟩ => hv ▸ hΩ ▸ h g)
theorem VI.box {tt i : Nat} {listed : Array Bool} {mm : Nat} {dd : Nat} {t : TypeId} {x : Operand} {v : Value} {ty : TypeId} {pos : String} {af : Array Edge} {cs : List Value} (j : Nat) (hd : Nat.blt dd n = true) (ho : ops[i]? = some ⟨some dd, .box t x, ty, pos, af, none⟩) (hx : ev σ x = some v) (hc : v.cells = cs.toArray) (hS : ∀ g W, Inv w0 ((j, mone g (.cells cs.toArray t (0, 0))) :: Ω) W → Inv w0 ΩS W)
    (h : ∀ g, VE P n w0 ops ΩS tt (listed.setIfInBounds i true) mm ((dd, .pointer (some ⟨g, 0, none⟩)) :: σ) ((j, mone g (.cells cs.toArray t (0, 0))) :: Ω) K) : VI P n w0 ops ΩS tt listed mm i σ Ω K :=
  VI.s (fun v => (dd, v) :: σ) ho (fun v _ he => he.put hd v) (.inl rfl) (Stp.box j hx) (fun _ _ ⟨g, _, hΩ⟩ W hW => hS g W (by subst hΩ; rw [hc] at hW; exact hW)) (fun _ _ ⟨g, hv, hΩ⟩ => by rw [hv, hΩ, hc]; exact h g)
theorem VI.app {tt q : Nat} {listed : Array Bool} {mm : Nat} {ty : TypeId} {pos : String} {af : Array Edge} {s x : Operand} {t xt e : TypeId} {sz b len k dd : Nat} {v xv : Value} {cs xs z : List Value} (i : Nat) {m m0 : Mem} (hd : Nat.blt dd n = true) (ho : ops[q]? = some ⟨some dd, .call { callee := .builtin .append, args := [s, x].toArray, argTypes := [t, xt].toArray }, ty, pos, af, none⟩) (hsv : ev σ s = some v) (hxv : ev σ x = some xv) (ht : tsl P t = some (e, sz, b)) (hz : tz P e = some z) (hzl : z.length = sz)
    (hm : cget Ω i = some m) (hm0 : mle m0 m) (hown : OwnA sz m0 v len cs) (hs : Src P Ω sz xt xv k xs) (h1 : ∀ u ∈ xs, u.oneCell' = true) (hml : len + k ≤ maxLen) (hb : (len + k) * b ≤ 140737488355328) (hb0 : b ≠ 0) (hS : ∀ m' W, Inv w0 (cset Ω i m') W → Inv w0 ΩS W)
    (h : ∀ v' m', OwnA sz m' v' (len + k) (cs ++ xs) → VE P n w0 ops ΩS tt (listed.setIfInBounds q true) mm ((dd, v') :: σ) (cset Ω i m') K) : VI P n w0 ops ΩS tt listed mm q σ Ω K :=
  VI.s (fun v => (dd, v) :: σ) ho (fun v _ he => he.put hd v) (.inl rfl) (Stp.app i hsv hxv ht hz hzl hm hm0 hown hs h1 hml hb hb0) (fun _ _ ⟨m', _, hΩ⟩ W hW => hS m' W (by subst hΩ; exact hW)) (fun v _ ⟨m', hp, hΩ⟩ => hΩ ▸ h v m' hp)
theorem VI.appO {tt q : Nat} {listed : Array Bool} {mm : Nat} {ty : TypeId} {pos : String} {af : Array Edge} {e : Ty} {s x : Operand} {t xt et xe : TypeId} {b dd g c : Nat} {v : Value} {xs : List e.Den} {y : e.Den} {yc z : List Value} (i j k : Nat) {m mj mk : Mem} (hd : Nat.blt dd n = true) (ho : ops[q]? = some ⟨some dd, .call { callee := .builtin .append, args := [s, x].toArray, argTypes := [t, xt].toArray }, ty, pos, af, none⟩) (hsv : ev σ s = some v) (hxv : ev σ x = some (.slice (some ⟨g, 0, none⟩) 1 c)) (ht : tsl P t = some (et, e.sz, b)) (hz : tz P et = some z) (hzl : z.length = e.sz)
    (hm : cget Ω i = some m) (hj : cget (cdel Ω i) j = some mj) (hk : cget Ω k = some mk) (hown : Ow (.sl e) m [v] xs) (hy : Ow e mj yc y) (hxt : P.underlying xt = some (.slice xe)) (hc : cellsAt mk g 0 e.sz yc) (hml : xs.length + 1 ≤ maxLen) (hb : (xs.length + 1) * b ≤ 140737488355328) (hb0 : b ≠ 0) (hS : ∀ m' W, Inv w0 ((i, m') :: cdel (cdel Ω i) j) W → Inv w0 ΩS W)
    (h : ∀ v' m', Ow (.sl e) m' [v'] (xs ++ [y]) → VE P n w0 ops ΩS tt (listed.setIfInBounds q true) mm ((dd, v') :: σ) ((i, m') :: cdel (cdel Ω i) j) K) : VI P n w0 ops ΩS tt listed mm q σ Ω K :=
  VI.s (fun v => (dd, v) :: σ) ho (fun v _ he => he.put hd v) (.inl rfl) (Stp.appO i j k hsv hxv ht hz hzl hm hj hk hown hy hxt hc hml hb hb0) (fun _ _ ⟨m', _, hΩ⟩ W hW => hS m' W (by subst hΩ; exact hW)) (fun v _ ⟨m', hp, hΩ⟩ => hΩ ▸ h v m' hp)
theorem VI.store {tt q : Nat} {listed : Array Bool} {mm : Nat} {ty : TypeId} {pos : String} {af : Array Edge} {t : TypeId} {x y : Operand} {g off : Nat} {v : Value} {k : Nat} (i : Nat) {c : Array Value} {E : TypeId} {c' : List Value}
    (ho : ops[q]? = some ⟨none, .store t x y, ty, pos, af, none⟩)
    (hx : ev σ x = some (.pointer (some ⟨g, off, none⟩))) (hy : ev σ y = some v) (ht : tk P t = some (some k) ∨ (tk P t = some none ∧ k = 1)) (hk : Nat.beq v.cells.size k = true) (hn : nice v = true)
    (hm : cget Ω i = some (mone g (.cells c E (0, 0)))) (hl : Nat.ble (off + k) c.size = true) (hc : splice c.toList off v.cells.toList = c')
    (hS : ∀ W, Inv w0 (cset Ω i (mone g (.cells c'.toArray E (0, 0)))) W → Inv w0 ΩS W)
    (h : VE P n w0 ops ΩS tt (listed.setIfInBounds q true) mm σ (cset Ω i (mone g (.cells c'.toArray E (0, 0)))) K) : VI P n w0 ops ΩS tt listed mm q σ Ω K :=
  VI.s (fun _ => σ) ho (fun _ _ he => he) (.inl rfl) (Stp.store i hx hy ht hk hn hm (mone_self _ _) hl) (fun _ _ ⟨_, hΩ⟩ W hW => hS W (by rw [hΩ, mset_one, hc] at hW; exact hW)) (fun _ _ ⟨_, hΩ⟩ => by rw [hΩ, mset_one, hc]; exact h)
end
end
end Go.Proofs.Ytfaknkkaegjdaaa
