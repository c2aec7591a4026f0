/- Part 5 of the proof of LLetterReads: what it needs of the library, the walks and the plain laws. Conditions: those named in each theorem. -/
import Derived.Test.YtcikgnbpcombpaaLLetterReadsM4
namespace Go.Proofs.Ytcikgnbpcombpaa
section
set_option linter.unusedVariables false
set_option linter.unusedSimpArgs false
set_option maxRecDepth 4000
theorem fnOk23 : fnOk Try.prog 23 = true := by kernel_rfl
theorem fnOk40 : fnOk Try.prog 40 = true := by kernel_rfl
theorem fnOk41 : fnOk Try.prog 41 = true := by kernel_rfl
theorem fnOk42 : fnOk Try.prog 42 = true := by kernel_rfl
theorem fnOk61 : fnOk Try.prog 61 = true := by kernel_rfl
theorem fnOk72 : fnOk Try.prog 72 = true := by kernel_rfl
theorem fnOk73 : fnOk Try.prog 73 = true := by kernel_rfl
theorem tz26 : tz Try.prog 26 = some [.int .i64 0, .int .i64 0, .int .u8 0, .int .i64 0, .slice none 0 0, .int .i64 0, .int .i64 0, .slice none 0 0] := by kernel_rfl
theorem plain11_ok (W : World) {v0 : List Value} {d0 : DMessage} (h0 : Rd TMessage (wm W) v0 d0) : CallR Try.prog 42 [.agg v0.toArray] W (mnil) (fun v m' => v = .bool (decide (bareM d0))) := by
  obtain ⟨p0_A4, p0_c4, p0_A7, p0_c7, rfl, p0_0, p0_1, p0_2, p0_3, p0_4, p0_5, p0_6, p0_7⟩ := open_Message (x0 := d0.1) (x1 := d0.2.1) (x2 := d0.2.2.1) (x3 := d0.2.2.2.1) (x4 := d0.2.2.2.2.1) (x5 := d0.2.2.2.2.2.1) (x6 := d0.2.2.2.2.2.2.1) (x7 := d0.2.2.2.2.2.2.2) h0
  simp only [inK] at p0_0
  simp only [inK] at p0_1
  simp only [inK] at p0_2
  simp only [inK] at p0_3
  have p0_r4 := Rd.room p0_4
  simp only [inK] at p0_5
  simp only [inK] at p0_6
  have p0_r7 := Rd.room p0_7
  refine CallR.ofA (n := 33) Try.func42 rfl rfl rfl ?_
  refine VC.rs ?_
  refine VO.box (cs := [Value.int .i64 (d0.1), Value.int .i64 (d0.2.1), Value.int .u8 (d0.2.2.1), Value.int .i64 (d0.2.2.2.1), Value.slice p0_A4 (d0.2.2.2.2.1.length) (p0_c4), Value.int .i64 (d0.2.2.2.2.2.1), Value.int .i64 (d0.2.2.2.2.2.2.1), Value.slice p0_A7 (d0.2.2.2.2.2.2.2.length) (p0_c7)]) 102 rfl rfl rfl (fun g1 => ?_)
  refine VO.as ?_
  refine VO.k3 0 1 2 ?_
  refine VC.rs ?_
  refine VO.y rfl (.fa rfl tst26 rfl) ?_
  refine VO.y rfl (.ld1 102 rfl tk22 rfl (cellsAt_one rfl rfl)) ?_
  refine VO.y rfl (.eql rfl rfl) ?_
  refine VO.mv ?_
  refine VO.dec (t := 6) rfl (fun hc3 => ?_) (fun hc3 => ?_)
  · -- T
    refine VO.gy rfl ⟨_, rfl, rfl⟩ (.fa rfl tst26 rfl) ?_
    refine VO.gy rfl ⟨_, rfl, rfl⟩ (.ld1 102 rfl tk3 rfl (cellsAt_one rfl rfl)) ?_
    refine VO.gy rfl ⟨_, rfl, rfl⟩ (.eql rfl rfl) ?_
    refine VO.y rfl (.pT rfl rfl) ?_
    refine VO.mv ?_
    refine VO.dec (t := 11) rfl (fun hc4 => ?_) (fun hc4 => ?_)
    · -- TT
      refine VO.gy rfl ⟨_, rfl, rfl⟩ (.fa rfl tst26 rfl) ?_
      refine VO.gy rfl ⟨_, rfl, rfl⟩ (.ld1 102 rfl tk23 rfl (cellsAt_one rfl rfl)) ?_
      refine VO.gy rfl ⟨_, rfl, rfl⟩ (.lenS rfl tsl23) ?_
      refine VO.gy rfl ⟨_, rfl, rfl⟩ (.eql rfl rfl) ?_
      refine VO.y rfl (.pT rfl rfl) ?_
      refine VO.mv ?_
      refine VO.dec (t := 17) rfl (fun hc5 => ?_) (fun hc5 => ?_)
      · -- TTT
        refine VO.gy rfl ⟨_, rfl, rfl⟩ (.fa rfl tst26 rfl) ?_
        refine VO.gy rfl ⟨_, rfl, rfl⟩ (.ld1 102 rfl tk3 rfl (cellsAt_one rfl rfl)) ?_
        refine VO.gy rfl ⟨_, rfl, rfl⟩ (.eql rfl rfl) ?_
        refine VO.y rfl (.pT rfl rfl) ?_
        refine VO.mv ?_
        refine VO.dec (t := 22) rfl (fun hc6 => ?_) (fun hc6 => ?_)
        · -- TTTT
          refine VO.gy rfl ⟨_, rfl, rfl⟩ (.fa rfl tst26 rfl) ?_
          refine VO.gy rfl ⟨_, rfl, rfl⟩ (.ld1 102 rfl tk3 rfl (cellsAt_one rfl rfl)) ?_
          refine VO.gy rfl ⟨_, rfl, rfl⟩ (.eql rfl rfl) ?_
          refine VO.y rfl (.pT rfl rfl) ?_
          refine VO.mv ?_
          refine VO.dec (t := 27) rfl (fun hc7 => ?_) (fun hc7 => ?_)
          · -- TTTTT
            refine VO.gy rfl ⟨_, rfl, rfl⟩ (.fa rfl tst26 rfl) ?_
            refine VO.gy rfl ⟨_, rfl, rfl⟩ (.ld1 102 rfl tk24 rfl (cellsAt_one rfl rfl)) ?_
            refine VO.gy rfl ⟨_, rfl, rfl⟩ (.lenS rfl tsl24) ?_
            refine VO.gy rfl ⟨_, rfl, rfl⟩ (.eql rfl rfl) ?_
            refine VO.y rfl (.pT rfl rfl) ?_
            refine VO.as ?_
            refine VO.k3 0 1 2 ?_
            refine VC.ret ?_
            refine ⟨_, _, res_run (rs := [.tmp 2]) rfl (.tmp rfl .nil), fun W_ hI => out_of (l := []) hI [] rfl rfl (mle_refl _) (fun hS_ => ?_)⟩
            dsimp only [packV]
            all_goals (first | rfl | (first | exact congrArg Value.bool (decide_eq_false (by unfold bareM; omega)).symm | exact congrArg Value.bool (decide_eq_decide.2 (by unfold bareM; omega))))
          · -- TTTTF
            refine VO.gN ?_
            refine VO.gN ?_
            refine VO.gN ?_
            refine VO.gN ?_
            refine VO.y rfl (.pF rfl rfl) ?_
            refine VO.as ?_
            refine VO.k3 0 1 2 ?_
            refine VC.ret ?_
            refine ⟨_, _, res_run (rs := [.tmp 2]) rfl (.tmp rfl .nil), fun W_ hI => out_of (l := []) hI [] rfl rfl (mle_refl _) (fun hS_ => ?_)⟩
            dsimp only [packV]
            all_goals (first | rfl | (first | exact congrArg Value.bool (decide_eq_false (by unfold bareM; omega)).symm | exact congrArg Value.bool (decide_eq_decide.2 (by unfold bareM; omega))))
        · -- TTTF
          refine VO.gN ?_
          refine VO.gN ?_
          refine VO.gN ?_
          refine VO.y rfl (.pF rfl rfl) ?_
          refine VO.mv ?_
          refine VO.gN ?_
          refine VO.gN ?_
          refine VO.gN ?_
          refine VO.gN ?_
          refine VO.y rfl (.pF rfl rfl) ?_
          refine VO.as ?_
          refine VO.k3 0 1 2 ?_
          refine VC.ret ?_
          refine ⟨_, _, res_run (rs := [.tmp 2]) rfl (.tmp rfl .nil), fun W_ hI => out_of (l := []) hI [] rfl rfl (mle_refl _) (fun hS_ => ?_)⟩
          dsimp only [packV]
          all_goals (first | rfl | (first | exact congrArg Value.bool (decide_eq_false (by unfold bareM; omega)).symm | exact congrArg Value.bool (decide_eq_decide.2 (by unfold bareM; omega))))
      · -- TTF
        refine VO.gN ?_
        refine VO.gN ?_
        refine VO.gN ?_
        refine VO.y rfl (.pF rfl rfl) ?_
        refine VO.mv ?_
        refine VO.gN ?_
        refine VO.gN ?_
        refine VO.gN ?_
        refine VO.y rfl (.pF rfl rfl) ?_
        refine VO.mv ?_
        refine VO.gN ?_
        refine VO.gN ?_
        refine VO.gN ?_
        refine VO.gN ?_
        refine VO.y rfl (.pF rfl rfl) ?_
        refine VO.as ?_
        refine VO.k3 0 1 2 ?_
        refine VC.ret ?_
        refine ⟨_, _, res_run (rs := [.tmp 2]) rfl (.tmp rfl .nil), fun W_ hI => out_of (l := []) hI [] rfl rfl (mle_refl _) (fun hS_ => ?_)⟩
        dsimp only [packV]
        all_goals (first | rfl | (first | exact congrArg Value.bool (decide_eq_false (by unfold bareM; omega)).symm | exact congrArg Value.bool (decide_eq_decide.2 (by unfold bareM; omega))))
    · -- TF
      refine VO.gN ?_
      refine VO.gN ?_
      refine VO.gN ?_
      refine VO.gN ?_
      refine VO.y rfl (.pF rfl rfl) ?_
      refine VO.mv ?_
      refine VO.gN ?_
      refine VO.gN ?_
      refine VO.gN ?_
      refine VO.y rfl (.pF rfl rfl) ?_
      refine VO.mv ?_
      refine VO.gN ?_
      refine VO.gN ?_
      refine VO.gN ?_
      refine VO.y rfl (.pF rfl rfl) ?_
      refine VO.mv ?_
      refine VO.gN ?_
      refine VO.gN ?_
      refine VO.gN ?_
      refine VO.gN ?_
      refine VO.y rfl (.pF rfl rfl) ?_
      refine VO.as ?_
      refine VO.k3 0 1 2 ?_
      refine VC.ret ?_
      refine ⟨_, _, res_run (rs := [.tmp 2]) rfl (.tmp rfl .nil), fun W_ hI => out_of (l := []) hI [] rfl rfl (mle_refl _) (fun hS_ => ?_)⟩
      dsimp only [packV]
      all_goals (first | rfl | (first | exact congrArg Value.bool (decide_eq_false (by unfold bareM; omega)).symm | exact congrArg Value.bool (decide_eq_decide.2 (by unfold bareM; omega))))
  · -- F
    refine VO.gN ?_
    refine VO.gN ?_
    refine VO.gN ?_
    refine VO.y rfl (.pF rfl rfl) ?_
    refine VO.mv ?_
    refine VO.gN ?_
    refine VO.gN ?_
    refine VO.gN ?_
    refine VO.gN ?_
    refine VO.y rfl (.pF rfl rfl) ?_
    refine VO.mv ?_
    refine VO.gN ?_
    refine VO.gN ?_
    refine VO.gN ?_
    refine VO.y rfl (.pF rfl rfl) ?_
    refine VO.mv ?_
    refine VO.gN ?_
    refine VO.gN ?_
    refine VO.gN ?_
    refine VO.y rfl (.pF rfl rfl) ?_
    refine VO.mv ?_
    refine VO.gN ?_
    refine VO.gN ?_
    refine VO.gN ?_
    refine VO.gN ?_
    refine VO.y rfl (.pF rfl rfl) ?_
    refine VO.as ?_
    refine VO.k3 0 1 2 ?_
    refine VC.ret ?_
    refine ⟨_, _, res_run (rs := [.tmp 2]) rfl (.tmp rfl .nil), fun W_ hI => out_of (l := []) hI [] rfl rfl (mle_refl _) (fun hS_ => ?_)⟩
    dsimp only [packV]
    all_goals (first | rfl | (first | exact congrArg Value.bool (decide_eq_false (by unfold bareM; omega)).symm | exact congrArg Value.bool (decide_eq_decide.2 (by unfold bareM; omega))))
theorem fin0_sCheck8_ok {P : Prop} (h : P := by congr 1; first | exact (sCheck_arg (by omega)).symm | exact (sCheck_len ‹¬ decide _ = decide _›).symm | exact (bad8 hs hp ‹d0[k]? = some _› (by first | omega | exact .inr (.inr (.inr (.inr ⟨_, by omega, by assumption, by omega⟩))))).symm | exact (sCheck_good (by omega) (by omega) ‹¬ ¬ decide _ = decide _› (hs.2 (by rw [List.drop_of_length_le (by omega)]; trivial))).symm) : P := h
theorem sCheck8_ok (W : World) {v0 : Value} {d0 : List DStart} (h0 : Rd (.sl TStart) (wm W) [v0] d0) (d1 : Int) (h1 : inK .i64 d1) : CallR Try.prog 72 [v0, .int .i64 d1] W (mnil) (fun v m' => v = .int .i64 (sCheck d0 d1)) := by
  obtain ⟨A0, c0, rfl, l0, k0⟩ := h0.slice
  simp only [maxLen] at k0
  have h1' := h1; simp only [inK] at h1'
  refine CallR.ofA (n := 93) Try.func72 rfl rfl rfl ?_
  refine VC.rs ?_
  refine VO.as ?_
  refine VO.k3 0 1 4 ?_
  refine VC.seq ?_
  refine VC.rs ?_
  refine VO.mv ?_
  refine VO.y rfl (.lss rfl rfl) ?_
  refine VO.mv ?_
  refine VO.dec (t := 8) rfl (fun hc1 => ?_) (fun hc1 => ?_)
  · -- T
    refine VO.gN ?_
    refine VO.gN ?_
    refine VO.y rfl (.pT rfl rfl) ?_
    refine VO.mv ?_
    refine VO.gN ?_
    refine VO.gN ?_
    refine VO.gN ?_
    refine VO.gN ?_
    refine VO.gN ?_
    refine VO.gN ?_
    refine VO.y rfl (.pT rfl rfl) ?_
    refine VO.k4 0 1 4 19 ?_
    refine VC.condT rfl ?_
    refine VC.rs ?_
    refine VO.as ?_
    refine VO.keep [0] [(0, wm W)] (by kernel_rfl) ?_
    refine VO.k4 0 1 4 19 ?_
    refine VC.ret ?_
    refine outR ?_
    refine ⟨_, _, res_run (rs := [.tmp 4]) rfl (.tmp rfl .nil), fun W_ hI => out_of (l := []) hI [] rfl rfl (mle_refl _) (fun hS_ => ?_)⟩
    dsimp only [packV]
    all_goals (first | rfl | (exact fin0_sCheck8_ok))
  · -- F
    refine VO.gy rfl ⟨_, rfl, rfl⟩ (.mv rfl) ?_
    refine VO.gy rfl ⟨_, rfl, rfl⟩ (.gtr rfl rfl) ?_
    refine VO.y rfl (.pF rfl rfl) ?_
    refine VO.mv ?_
    refine VO.dec (t := 12) rfl (fun hc2 => ?_) (fun hc2 => ?_)
    · -- FT
      refine VO.gN ?_
      refine VO.gN ?_
      refine VO.gN ?_
      refine VO.gN ?_
      refine VO.gN ?_
      refine VO.gN ?_
      refine VO.y rfl (.pT rfl rfl) ?_
      refine VO.k4 0 1 4 19 ?_
      refine VC.condT rfl ?_
      refine VC.rs ?_
      refine VO.as ?_
      refine VO.keep [0] [(0, wm W)] (by kernel_rfl) ?_
      refine VO.k4 0 1 4 19 ?_
      refine VC.ret ?_
      refine outR ?_
      refine ⟨_, _, res_run (rs := [.tmp 4]) rfl (.tmp rfl .nil), fun W_ hI => out_of (l := []) hI [] rfl rfl (mle_refl _) (fun hS_ => ?_)⟩
      dsimp only [packV]
      all_goals (first | rfl | (exact fin0_sCheck8_ok))
    · -- FF
      refine VO.gy rfl ⟨_, rfl, rfl⟩ (.mv rfl) ?_
      refine VO.gy rfl ⟨_, rfl, rfl⟩ (.lenS rfl tsl23) ?_
      refine VO.gy rfl ⟨_, rfl, rfl⟩ (.eql rfl rfl) ?_
      refine VO.gy rfl ⟨_, rfl, rfl⟩ (.mv rfl) ?_
      refine VO.gy rfl ⟨_, rfl, rfl⟩ (.eql rfl rfl) ?_
      refine VO.gy rfl ⟨_, rfl, rfl⟩ (.bneq rfl rfl Try.underlying4) ?_
      refine VO.y rfl (.pF rfl rfl) ?_
      refine VO.k4 0 1 4 19 ?_
      refine VC.cond rfl (fun hc3 => ?_) (fun hc3 => ?_)
      · -- FFT
        refine VC.rs ?_
        refine VO.as ?_
        refine VO.keep [0] [(0, wm W)] (by kernel_rfl) ?_
        refine VO.k4 0 1 4 19 ?_
        refine VC.ret ?_
        refine outR ?_
        refine ⟨_, _, res_run (rs := [.tmp 4]) rfl (.tmp rfl .nil), fun W_ hI => out_of (l := []) hI [] rfl rfl (mle_refl _) (fun hS_ => ?_)⟩
        dsimp only [packV]
        all_goals (first | rfl | (exact fin0_sCheck8_ok))
      · -- FFF
        refine VC.skip ?_
        refine outN ?_
        refine VC.seq ?_
        refine VC.rs ?_
        refine VO.as ?_
        refine VO.keep [0] [(0, wm W)] (by kernel_rfl) ?_
        refine VO.k5 0 1 4 5 19 ?_
        refine VC.block ?_
        refine VC.loop (G := Nat) (fun k => [(5, Value.int .i64 (((k : Nat) : Int))), (0, Value.slice A0 (d0.length) (c0)), (1, Value.int .i64 (d1)), (19, Value.bool (decide (¬ (decide (((d0.length : Nat) : Int) = 0)) = (decide (d1 = 0)))))]) (fun k => [(0, wm W)]) (fun k => (k ≤ d0.length) ∧ (0 ≤ (prevS d0 k).1) ∧ (sGo d1 0 0 0 d0 ↔ sGo d1 (prevS d0 k).1 (prevS d0 k).2 k (d0.drop k))) (fun k => d0.length - k) 0 (⟨by omega, by exact Int.le_refl _, by exact Iff.rfl⟩) ⟨⟨rfl, rfl, rfl, rfl, trivial⟩, fun _ h => h.sub [0]⟩ ?_
        rintro k ⟨hk, hp, hs⟩
        refine VC.seq ?_
        refine VC.rs ?_
        refine VO.mv ?_
        refine VO.mv ?_
        refine VO.y rfl (.lenS rfl tsl23) ?_
        refine VO.y rfl (.lss rfl rfl) ?_
        refine VO.k5 0 1 5 19 23 ?_
        refine VC.cond rfl (fun hc4 => ?_) (fun hc4 => ?_)
        · -- FFFT
          refine VC.skip ?_
          refine outN ?_
          refine VC.seq ?_
          refine VC.block ?_
          refine VC.seq ?_
          refine VC.regD _ 63 [(0, true), (1, true), (2, true), (3, true), (4, true), (5, true), (6, true), (7, true), (8, true), (9, true), (10, true), (11, true), (12, true), (13, true), (14, true), (15, true), (16, true), (17, true), (18, true), (19, true), (20, true), (21, true), (22, true), (23, true), (24, true), (25, true), (26, true), (27, true), (28, true), (29, true), (30, true), (31, true), (32, true), (33, true), (34, true), (35, true), (36, true), (37, true), (38, true), (39, true), (40, true), (41, true), (42, true), (43, true), (44, true), (45, true), (46, true), (47, true), (48, true), (49, true), (50, true), (51, true), (52, true), (53, true), (54, true), (55, true), (56, true), (57, true), (58, true), (59, true), (60, true), (61, true), (62, true)] follows (by kernel_rfl) (fun _ h => h.sub [0]) ?_
          refine VD.y rfl rfl (.inl rfl) (.mv rfl) ?_
          refine VD.y rfl rfl (.inl rfl) (.mv rfl) ?_
          obtain ⟨x5, hx5⟩ : ∃ z_, (d0)[k]? = some z_ := ⟨_, List.getElem?_eq_getElem bd⟩
          obtain ⟨gg5, oo5, ec5, ea5, hce5, hre5⟩ := h0.elem hx5
          cases ea5
          obtain ⟨rfl, q5_0, q5_1⟩ := open_Start (x0 := x5.1) (x1 := x5.2) hre5
          simp only [inK] at q5_0
          simp only [inK] at q5_1
          refine VD.y rfl rfl (.inl rfl) (.ixI k rfl rfl tsl23 rfl bd) ?_
          refine VD.y rfl rfl (.inl rfl) (.fa rfl tst57 rfl) ?_
          refine VD.y rfl rfl (.inl rfl) (.ld1 0 rfl tk3 rfl (hce5.at1 (j := 0) rfl)) ?_
          refine VD.y rfl rfl (.inl rfl) (.lss rfl rfl) ?_
          refine VD.y rfl rfl (.inl rfl) (.mv rfl) ?_
          refine VD.dec (s := 32) rfl (fun hc6 => ?_) (fun hc6 => ?_)
          · -- FFFTT
            refine VD.gn rfl rfl (.inl ⟨_, rfl, rfl⟩) ?_
            refine VD.gn rfl rfl (.inl ⟨_, rfl, rfl⟩) ?_
            refine VD.gn rfl rfl (.inl ⟨_, rfl, rfl⟩) ?_
            refine VD.gn rfl rfl (.inl ⟨_, rfl, rfl⟩) ?_
            refine VD.gn rfl rfl (.inl ⟨_, rfl, rfl⟩) ?_
            refine VD.gn rfl rfl (.inl ⟨_, rfl, rfl⟩) ?_
            refine VD.y rfl rfl (.inl rfl) (.pT rfl rfl) ?_
            refine VD.y rfl rfl (.inl rfl) (.mv rfl) ?_
            refine VD.gn rfl rfl (.inl ⟨_, rfl, rfl⟩) ?_
            refine VD.gn rfl rfl (.inl ⟨_, rfl, rfl⟩) ?_
            refine VD.gn rfl rfl (.inl ⟨_, rfl, rfl⟩) ?_
            refine VD.gn rfl rfl (.inl ⟨_, rfl, rfl⟩) ?_
            refine VD.gn rfl rfl (.inl ⟨_, rfl, rfl⟩) ?_
            refine VD.gn rfl rfl (.inl ⟨_, rfl, rfl⟩) ?_
            refine VD.gn rfl rfl (.inl ⟨_, rfl, rfl⟩) ?_
            refine VD.y rfl rfl (.inl rfl) (.pT rfl rfl) ?_
            refine VD.y rfl rfl (.inl rfl) (.mv rfl) ?_
            refine VD.gn rfl rfl (.inl ⟨_, rfl, rfl⟩) ?_
            refine VD.gn rfl rfl (.inl ⟨_, rfl, rfl⟩) ?_
            refine VD.gn rfl rfl (.inl ⟨_, rfl, rfl⟩) ?_
            refine VD.gn rfl rfl (.inr ⟨_, rfl, rfl⟩) ?_
            refine VD.gn rfl rfl (.inr ⟨_, rfl, rfl⟩) ?_
            refine VD.gn rfl rfl (.inr ⟨_, rfl, rfl⟩) ?_
            refine VD.gn rfl rfl (.inr ⟨_, rfl, rfl⟩) ?_
            refine VD.gn rfl rfl (.inr ⟨_, rfl, rfl⟩) ?_
            refine VD.gn rfl rfl (.inr ⟨_, rfl, rfl⟩) ?_
            refine VD.gn rfl rfl (.inl ⟨_, rfl, rfl⟩) ?_
            refine VD.y rfl rfl (.inl rfl) (.pT rfl rfl) ?_
            refine VD.y rfl rfl (.inl rfl) (.mv rfl) ?_
            refine VD.gn rfl rfl (.inl ⟨_, rfl, rfl⟩) ?_
            refine VD.gn rfl rfl (.inl ⟨_, rfl, rfl⟩) ?_
            refine VD.gn rfl rfl (.inl ⟨_, rfl, rfl⟩) ?_
            refine VD.gn rfl rfl (.inr ⟨_, rfl, rfl⟩) ?_
            refine VD.gn rfl rfl (.inr ⟨_, rfl, rfl⟩) ?_
            refine VD.gn rfl rfl (.inr ⟨_, rfl, rfl⟩) ?_
            refine VD.gn rfl rfl (.inr ⟨_, rfl, rfl⟩) ?_
            refine VD.gn rfl rfl (.inr ⟨_, rfl, rfl⟩) ?_
            refine VD.gn rfl rfl (.inr ⟨_, rfl, rfl⟩) ?_
            refine VD.gn rfl rfl (.inr ⟨_, rfl, rfl⟩) ?_
            refine VD.gn rfl rfl (.inr ⟨_, rfl, rfl⟩) ?_
            refine VD.gn rfl rfl (.inr ⟨_, rfl, rfl⟩) ?_
            refine VD.gn rfl rfl (.inr ⟨_, rfl, rfl⟩) ?_
            refine VD.gn rfl rfl (.inr ⟨_, rfl, rfl⟩) ?_
            refine VD.gn rfl rfl (.inr ⟨_, rfl, rfl⟩) ?_
            refine VD.gn rfl rfl (.inr ⟨_, rfl, rfl⟩) ?_
            refine VD.gn rfl rfl (.inr ⟨_, rfl, rfl⟩) ?_
            refine VD.gn rfl rfl (.inr ⟨_, rfl, rfl⟩) ?_
            refine VD.gn rfl rfl (.inr ⟨_, rfl, rfl⟩) ?_
            refine VD.gn rfl rfl (.inr ⟨_, rfl, rfl⟩) ?_
            refine VD.gn rfl rfl (.inr ⟨_, rfl, rfl⟩) ?_
            refine VD.gn rfl rfl (.inr ⟨_, rfl, rfl⟩) ?_
            refine VD.gn rfl rfl (.inr ⟨_, rfl, rfl⟩) ?_
            refine VD.gn rfl rfl (.inr ⟨_, rfl, rfl⟩) ?_
            refine VD.gn rfl rfl (.inr ⟨_, rfl, rfl⟩) ?_
            refine VD.gn rfl rfl (.inr ⟨_, rfl, rfl⟩) ?_
            refine VD.gn rfl rfl (.inr ⟨_, rfl, rfl⟩) ?_
            refine VD.nil rfl ?_ rfl
            refine VO.gn rfl (.inr ⟨_, rfl, rfl⟩) ?_
            refine VO.gn rfl (.inr ⟨_, rfl, rfl⟩) ?_
            refine VO.gN ?_
            refine VO.y rfl (.pT rfl rfl) ?_
            refine VO.k6 0 1 5 19 23 92 ?_
            refine outN ?_
            refine VC.condT rfl ?_
            refine VC.rs ?_
            refine VO.as ?_
            refine VO.keep [0] [(0, wm W)] (by kernel_rfl) ?_
            refine VO.k7 0 1 4 5 19 23 92 ?_
            refine VC.ret ?_
            refine outBR ?_
            refine outR ?_
            refine outR ?_
            refine outBR ?_
            refine outR ?_
            refine ⟨_, _, res_run (rs := [.tmp 4]) rfl (.tmp rfl .nil), fun W_ hI => out_of (l := []) hI [] rfl rfl (mle_refl _) (fun hS_ => ?_)⟩
            dsimp only [packV]
            all_goals (first | rfl | (exact fin0_sCheck8_ok))
          · -- FFFTF
            refine VD.y rfl rfl (.inr ⟨_, _, rfl, _, rfl, rfl⟩) (.mv rfl) ?_
            refine VD.y rfl rfl (.inr ⟨_, _, rfl, _, rfl, rfl⟩) (.mv rfl) ?_
            refine VD.y rfl rfl (.inr ⟨_, _, rfl, _, rfl, rfl⟩) (.ixI k rfl rfl tsl23 rfl bd) ?_
            refine VD.y rfl rfl (.inr ⟨_, _, rfl, _, rfl, rfl⟩) (.fa rfl tst57 rfl) ?_
            refine VD.y rfl rfl (.inr ⟨_, _, rfl, _, rfl, rfl⟩) (.ld1 0 rfl tk3 rfl (hce5.at1 (j := 0) rfl)) ?_
            refine VD.y rfl rfl (.inr ⟨_, _, rfl, _, rfl, rfl⟩) (.gtr rfl rfl) ?_
            refine VD.y rfl rfl (.inl rfl) (.pF rfl rfl) ?_
            refine VD.y rfl rfl (.inl rfl) (.mv rfl) ?_
            refine VD.dec (s := 40) rfl (fun hc8 => ?_) (fun hc8 => ?_)
            · -- FFFTFT
              refine VD.gn rfl rfl (.inl ⟨_, rfl, rfl⟩) ?_
              refine VD.gn rfl rfl (.inl ⟨_, rfl, rfl⟩) ?_
              refine VD.gn rfl rfl (.inl ⟨_, rfl, rfl⟩) ?_
              refine VD.gn rfl rfl (.inl ⟨_, rfl, rfl⟩) ?_
              refine VD.gn rfl rfl (.inl ⟨_, rfl, rfl⟩) ?_
              refine VD.gn rfl rfl (.inl ⟨_, rfl, rfl⟩) ?_
              refine VD.gn rfl rfl (.inl ⟨_, rfl, rfl⟩) ?_
              refine VD.y rfl rfl (.inl rfl) (.pT rfl rfl) ?_
              refine VD.y rfl rfl (.inl rfl) (.mv rfl) ?_
              refine VD.gn rfl rfl (.inl ⟨_, rfl, rfl⟩) ?_
              refine VD.gn rfl rfl (.inl ⟨_, rfl, rfl⟩) ?_
              refine VD.gn rfl rfl (.inl ⟨_, rfl, rfl⟩) ?_
              refine VD.gn rfl rfl (.inr ⟨_, rfl, rfl⟩) ?_
              refine VD.gn rfl rfl (.inr ⟨_, rfl, rfl⟩) ?_
              refine VD.gn rfl rfl (.inr ⟨_, rfl, rfl⟩) ?_
              refine VD.gn rfl rfl (.inr ⟨_, rfl, rfl⟩) ?_
              refine VD.gn rfl rfl (.inr ⟨_, rfl, rfl⟩) ?_
              refine VD.gn rfl rfl (.inr ⟨_, rfl, rfl⟩) ?_
              refine VD.gn rfl rfl (.inl ⟨_, rfl, rfl⟩) ?_
              refine VD.y rfl rfl (.inl rfl) (.pT rfl rfl) ?_
              refine VD.y rfl rfl (.inl rfl) (.mv rfl) ?_
              refine VD.gn rfl rfl (.inl ⟨_, rfl, rfl⟩) ?_
              refine VD.gn rfl rfl (.inl ⟨_, rfl, rfl⟩) ?_
              refine VD.gn rfl rfl (.inl ⟨_, rfl, rfl⟩) ?_
              refine VD.gn rfl rfl (.inr ⟨_, rfl, rfl⟩) ?_
              refine VD.gn rfl rfl (.inr ⟨_, rfl, rfl⟩) ?_
              refine VD.gn rfl rfl (.inr ⟨_, rfl, rfl⟩) ?_
              refine VD.gn rfl rfl (.inr ⟨_, rfl, rfl⟩) ?_
              refine VD.gn rfl rfl (.inr ⟨_, rfl, rfl⟩) ?_
              refine VD.gn rfl rfl (.inr ⟨_, rfl, rfl⟩) ?_
              refine VD.gn rfl rfl (.inr ⟨_, rfl, rfl⟩) ?_
              refine VD.gn rfl rfl (.inr ⟨_, rfl, rfl⟩) ?_
              refine VD.gn rfl rfl (.inr ⟨_, rfl, rfl⟩) ?_
              refine VD.gn rfl rfl (.inr ⟨_, rfl, rfl⟩) ?_
              refine VD.gn rfl rfl (.inr ⟨_, rfl, rfl⟩) ?_
              refine VD.gn rfl rfl (.inr ⟨_, rfl, rfl⟩) ?_
              refine VD.gn rfl rfl (.inr ⟨_, rfl, rfl⟩) ?_
              refine VD.gn rfl rfl (.inr ⟨_, rfl, rfl⟩) ?_
              refine VD.gn rfl rfl (.inr ⟨_, rfl, rfl⟩) ?_
              refine VD.gn rfl rfl (.inr ⟨_, rfl, rfl⟩) ?_
              refine VD.gn rfl rfl (.inr ⟨_, rfl, rfl⟩) ?_
              refine VD.gn rfl rfl (.inr ⟨_, rfl, rfl⟩) ?_
              refine VD.gn rfl rfl (.inr ⟨_, rfl, rfl⟩) ?_
              refine VD.gn rfl rfl (.inr ⟨_, rfl, rfl⟩) ?_
              refine VD.gn rfl rfl (.inr ⟨_, rfl, rfl⟩) ?_
              refine VD.gn rfl rfl (.inr ⟨_, rfl, rfl⟩) ?_
              refine VD.gn rfl rfl (.inr ⟨_, rfl, rfl⟩) ?_
              refine VD.gn rfl rfl (.inr ⟨_, rfl, rfl⟩) ?_
              refine VD.nil rfl ?_ rfl
              refine VO.gn rfl (.inr ⟨_, rfl, rfl⟩) ?_
              refine VO.gn rfl (.inr ⟨_, rfl, rfl⟩) ?_
              refine VO.gN ?_
              refine VO.y rfl (.pT rfl rfl) ?_
              refine VO.k6 0 1 5 19 23 92 ?_
              refine outN ?_
              refine VC.condT rfl ?_
              refine VC.rs ?_
              refine VO.as ?_
              refine VO.keep [0] [(0, wm W)] (by kernel_rfl) ?_
              refine VO.k7 0 1 4 5 19 23 92 ?_
              refine VC.ret ?_
              refine outBR ?_
              refine outR ?_
              refine outR ?_
              refine outBR ?_
              refine outR ?_
              refine ⟨_, _, res_run (rs := [.tmp 4]) rfl (.tmp rfl .nil), fun W_ hI => out_of (l := []) hI [] rfl rfl (mle_refl _) (fun hS_ => ?_)⟩
              dsimp only [packV]
              all_goals (first | rfl | (exact fin0_sCheck8_ok))
            · -- FFFTFF
              refine VD.y rfl rfl (.inr ⟨_, _, rfl, _, rfl, rfl⟩) (.mv rfl) ?_
              refine VD.y rfl rfl (.inr ⟨_, _, rfl, _, rfl, rfl⟩) (.mv rfl) ?_
              refine VD.y rfl rfl (.inr ⟨_, _, rfl, _, rfl, rfl⟩) (.ixI k rfl rfl tsl23 rfl bd) ?_
              refine VD.y rfl rfl (.inr ⟨_, _, rfl, _, rfl, rfl⟩) (.fa rfl tst57 rfl) ?_
              refine VD.y rfl rfl (.inr ⟨_, _, rfl, _, rfl, rfl⟩) (.ld1 0 rfl tk3 rfl (hce5.at1 (j := 1) rfl)) ?_
              refine VD.y rfl rfl (.inr ⟨_, _, rfl, _, rfl, rfl⟩) (.mv rfl) ?_
              refine VD.y rfl rfl (.inr ⟨_, _, rfl, _, rfl, rfl⟩) (.gtr rfl rfl) ?_
              refine VD.y rfl rfl (.inl rfl) (.pF rfl rfl) ?_
              refine VD.y rfl rfl (.inl rfl) (.mv rfl) ?_
              refine VD.dec (s := 49) rfl (fun hc10 => ?_) (fun hc10 => ?_)
              · -- FFFTFFT
                refine VD.gn rfl rfl (.inl ⟨_, rfl, rfl⟩) ?_
                refine VD.gn rfl rfl (.inl ⟨_, rfl, rfl⟩) ?_
                refine VD.gn rfl rfl (.inl ⟨_, rfl, rfl⟩) ?_
                refine VD.gn rfl rfl (.inr ⟨_, rfl, rfl⟩) ?_
                refine VD.gn rfl rfl (.inr ⟨_, rfl, rfl⟩) ?_
                refine VD.gn rfl rfl (.inr ⟨_, rfl, rfl⟩) ?_
                refine VD.gn rfl rfl (.inr ⟨_, rfl, rfl⟩) ?_
                refine VD.gn rfl rfl (.inr ⟨_, rfl, rfl⟩) ?_
                refine VD.gn rfl rfl (.inr ⟨_, rfl, rfl⟩) ?_
                refine VD.gn rfl rfl (.inl ⟨_, rfl, rfl⟩) ?_
                refine VD.y rfl rfl (.inl rfl) (.pT rfl rfl) ?_
                refine VD.y rfl rfl (.inl rfl) (.mv rfl) ?_
                refine VD.gn rfl rfl (.inl ⟨_, rfl, rfl⟩) ?_
                refine VD.gn rfl rfl (.inl ⟨_, rfl, rfl⟩) ?_
                refine VD.gn rfl rfl (.inl ⟨_, rfl, rfl⟩) ?_
                refine VD.gn rfl rfl (.inr ⟨_, rfl, rfl⟩) ?_
                refine VD.gn rfl rfl (.inr ⟨_, rfl, rfl⟩) ?_
                refine VD.gn rfl rfl (.inr ⟨_, rfl, rfl⟩) ?_
                refine VD.gn rfl rfl (.inr ⟨_, rfl, rfl⟩) ?_
                refine VD.gn rfl rfl (.inr ⟨_, rfl, rfl⟩) ?_
                refine VD.gn rfl rfl (.inr ⟨_, rfl, rfl⟩) ?_
                refine VD.gn rfl rfl (.inr ⟨_, rfl, rfl⟩) ?_
                refine VD.gn rfl rfl (.inr ⟨_, rfl, rfl⟩) ?_
                refine VD.gn rfl rfl (.inr ⟨_, rfl, rfl⟩) ?_
                refine VD.gn rfl rfl (.inr ⟨_, rfl, rfl⟩) ?_
                refine VD.gn rfl rfl (.inr ⟨_, rfl, rfl⟩) ?_
                refine VD.gn rfl rfl (.inr ⟨_, rfl, rfl⟩) ?_
                refine VD.gn rfl rfl (.inr ⟨_, rfl, rfl⟩) ?_
                refine VD.gn rfl rfl (.inr ⟨_, rfl, rfl⟩) ?_
                refine VD.gn rfl rfl (.inr ⟨_, rfl, rfl⟩) ?_
                refine VD.gn rfl rfl (.inr ⟨_, rfl, rfl⟩) ?_
                refine VD.gn rfl rfl (.inr ⟨_, rfl, rfl⟩) ?_
                refine VD.gn rfl rfl (.inr ⟨_, rfl, rfl⟩) ?_
                refine VD.gn rfl rfl (.inr ⟨_, rfl, rfl⟩) ?_
                refine VD.gn rfl rfl (.inr ⟨_, rfl, rfl⟩) ?_
                refine VD.gn rfl rfl (.inr ⟨_, rfl, rfl⟩) ?_
                refine VD.gn rfl rfl (.inr ⟨_, rfl, rfl⟩) ?_
                refine VD.gn rfl rfl (.inr ⟨_, rfl, rfl⟩) ?_
                refine VD.gn rfl rfl (.inr ⟨_, rfl, rfl⟩) ?_
                refine VD.nil rfl ?_ rfl
                refine VO.gn rfl (.inr ⟨_, rfl, rfl⟩) ?_
                refine VO.gn rfl (.inr ⟨_, rfl, rfl⟩) ?_
                refine VO.gN ?_
                refine VO.y rfl (.pT rfl rfl) ?_
                refine VO.k6 0 1 5 19 23 92 ?_
                refine outN ?_
                refine VC.condT rfl ?_
                refine VC.rs ?_
                refine VO.as ?_
                refine VO.keep [0] [(0, wm W)] (by kernel_rfl) ?_
                refine VO.k7 0 1 4 5 19 23 92 ?_
                refine VC.ret ?_
                refine outBR ?_
                refine outR ?_
                refine outR ?_
                refine outBR ?_
                refine outR ?_
                refine ⟨_, _, res_run (rs := [.tmp 4]) rfl (.tmp rfl .nil), fun W_ hI => out_of (l := []) hI [] rfl rfl (mle_refl _) (fun hS_ => ?_)⟩
                dsimp only [packV]
                all_goals (first | rfl | (exact fin0_sCheck8_ok))
              · -- FFFTFFF
                refine VD.y rfl rfl (.inr ⟨_, _, rfl, _, rfl, rfl⟩) (.mv rfl) ?_
                refine VD.y rfl rfl (.inr ⟨_, _, rfl, _, rfl, rfl⟩) (.eql rfl rfl) ?_
                refine VD.y rfl rfl (.inr ⟨_, _, rfl, _, rfl, rfl⟩) (.mv rfl) ?_
                refine VD.dec (s := 52) rfl (fun hc11 => ?_) (fun hc11 => ?_)
                · -- FFFTFFFT
                  refine VD.y rfl rfl (.inr ⟨_, _, rfl, _, rfl, rfl⟩) (.mv rfl) ?_
                  refine VD.y rfl rfl (.inr ⟨_, _, rfl, _, rfl, rfl⟩) (.mv rfl) ?_
                  refine VD.y rfl rfl (.inr ⟨_, _, rfl, _, rfl, rfl⟩) (.ixI k rfl rfl tsl23 rfl bd) ?_
                  refine VD.y rfl rfl (.inr ⟨_, _, rfl, _, rfl, rfl⟩) (.fa rfl tst57 rfl) ?_
                  refine VD.y rfl rfl (.inr ⟨_, _, rfl, _, rfl, rfl⟩) (.ld1 0 rfl tk3 rfl (hce5.at1 (j := 1) rfl)) ?_
                  refine VD.y rfl rfl (.inr ⟨_, _, rfl, _, rfl, rfl⟩) (.neq rfl rfl) ?_
                  refine VD.y rfl rfl (.inr ⟨_, _, rfl, _, rfl, rfl⟩) (.pT rfl rfl) ?_
                  refine VD.y rfl rfl (.inl rfl) (.pF rfl rfl) ?_
                  refine VD.y rfl rfl (.inl rfl) (.mv rfl) ?_
                  refine VD.dec (s := 61) rfl (fun hc13 => ?_) (fun hc13 => ?_)
                  · -- FFFTFFFTT
                    refine VD.gn rfl rfl (.inl ⟨_, rfl, rfl⟩) ?_
                    refine VD.gn rfl rfl (.inl ⟨_, rfl, rfl⟩) ?_
                    refine VD.gn rfl rfl (.inl ⟨_, rfl, rfl⟩) ?_
                    refine VD.gn rfl rfl (.inr ⟨_, rfl, rfl⟩) ?_
                    refine VD.gn rfl rfl (.inr ⟨_, rfl, rfl⟩) ?_
                    refine VD.gn rfl rfl (.inr ⟨_, rfl, rfl⟩) ?_
                    refine VD.gn rfl rfl (.inr ⟨_, rfl, rfl⟩) ?_
                    refine VD.gn rfl rfl (.inr ⟨_, rfl, rfl⟩) ?_
                    refine VD.gn rfl rfl (.inr ⟨_, rfl, rfl⟩) ?_
                    refine VD.gn rfl rfl (.inr ⟨_, rfl, rfl⟩) ?_
                    refine VD.gn rfl rfl (.inr ⟨_, rfl, rfl⟩) ?_
                    refine VD.gn rfl rfl (.inr ⟨_, rfl, rfl⟩) ?_
                    refine VD.gn rfl rfl (.inr ⟨_, rfl, rfl⟩) ?_
                    refine VD.gn rfl rfl (.inr ⟨_, rfl, rfl⟩) ?_
                    refine VD.gn rfl rfl (.inr ⟨_, rfl, rfl⟩) ?_
                    refine VD.gn rfl rfl (.inr ⟨_, rfl, rfl⟩) ?_
                    refine VD.gn rfl rfl (.inr ⟨_, rfl, rfl⟩) ?_
                    refine VD.gn rfl rfl (.inr ⟨_, rfl, rfl⟩) ?_
                    refine VD.gn rfl rfl (.inr ⟨_, rfl, rfl⟩) ?_
                    refine VD.gn rfl rfl (.inr ⟨_, rfl, rfl⟩) ?_
                    refine VD.gn rfl rfl (.inr ⟨_, rfl, rfl⟩) ?_
                    refine VD.gn rfl rfl (.inr ⟨_, rfl, rfl⟩) ?_
                    refine VD.gn rfl rfl (.inr ⟨_, rfl, rfl⟩) ?_
                    refine VD.gn rfl rfl (.inr ⟨_, rfl, rfl⟩) ?_
                    refine VD.gn rfl rfl (.inr ⟨_, rfl, rfl⟩) ?_
                    refine VD.gn rfl rfl (.inr ⟨_, rfl, rfl⟩) ?_
                    refine VD.gn rfl rfl (.inr ⟨_, rfl, rfl⟩) ?_
                    refine VD.nil rfl ?_ rfl
                    refine VO.gn rfl (.inr ⟨_, rfl, rfl⟩) ?_
                    refine VO.gn rfl (.inr ⟨_, rfl, rfl⟩) ?_
                    refine VO.gN ?_
                    refine VO.y rfl (.pT rfl rfl) ?_
                    refine VO.k6 0 1 5 19 23 92 ?_
                    refine outN ?_
                    refine VC.condT rfl ?_
                    refine VC.rs ?_
                    refine VO.as ?_
                    refine VO.keep [0] [(0, wm W)] (by kernel_rfl) ?_
                    refine VO.k7 0 1 4 5 19 23 92 ?_
                    refine VC.ret ?_
                    refine outBR ?_
                    refine outR ?_
                    refine outR ?_
                    refine outBR ?_
                    refine outR ?_
                    refine ⟨_, _, res_run (rs := [.tmp 4]) rfl (.tmp rfl .nil), fun W_ hI => out_of (l := []) hI [] rfl rfl (mle_refl _) (fun hS_ => ?_)⟩
                    dsimp only [packV]
                    all_goals (first | rfl | (exact fin0_sCheck8_ok))
                  · -- FFFTFFFTF
                    refine VD.y rfl rfl (.inr ⟨_, _, rfl, _, rfl, rfl⟩) (.mv rfl) ?_
                    refine VD.y rfl rfl (.inr ⟨_, _, rfl, _, rfl, rfl⟩) (.gtr rfl rfl) ?_
                    refine VD.y rfl rfl (.inr ⟨_, _, rfl, _, rfl, rfl⟩) (.mv rfl) ?_
                    refine VD.dec (s := 64) rfl (fun hc14 => ?_) (fun hc14 => ?_)
                    · -- FFFTFFFTFT
                      refine VD.y rfl rfl (.inr ⟨_, _, rfl, _, rfl, rfl⟩) (.mv rfl) ?_
                      refine VD.y rfl rfl (.inr ⟨_, _, rfl, _, rfl, rfl⟩) (.mv rfl) ?_
                      refine VD.y rfl rfl (.inr ⟨_, _, rfl, _, rfl, rfl⟩) (.ixI k rfl rfl tsl23 rfl bd) ?_
                      refine VD.y rfl rfl (.inr ⟨_, _, rfl, _, rfl, rfl⟩) (.fa rfl tst57 rfl) ?_
                      refine VD.y rfl rfl (.inr ⟨_, _, rfl, _, rfl, rfl⟩) (.ld1 0 rfl tk3 rfl (hce5.at1 (j := 0) rfl)) ?_
                      refine VD.y rfl rfl (.inr ⟨_, _, rfl, _, rfl, rfl⟩) (.mv rfl) ?_
                      refine VD.y rfl rfl (.inr ⟨_, _, rfl, _, rfl, rfl⟩) (.mv rfl) ?_
                      refine VD.y rfl rfl (.inr ⟨_, _, rfl, _, rfl, rfl⟩) (.sub rfl rfl rfl ⟨bd, bd⟩) ?_
                      obtain ⟨x16, hx16⟩ : ∃ z_, (d0)[(((k : Nat) : Int) - 1).toNat]? = some z_ := ⟨_, List.getElem?_eq_getElem bd⟩
                      obtain ⟨gg16, oo16, ec16, ea16, hce16, hre16⟩ := h0.elem hx16
                      cases ea16
                      obtain ⟨rfl, q16_0, q16_1⟩ := open_Start (x0 := x16.1) (x1 := x16.2) hre16
                      simp only [inK] at q16_0
                      simp only [inK] at q16_1
                      refine VD.y rfl rfl (.inr ⟨_, _, rfl, _, rfl, rfl⟩) (.ixI ((((k : Nat) : Int) - 1).toNat) rfl rfl tsl23 bd bd) ?_
                      refine VD.y rfl rfl (.inr ⟨_, _, rfl, _, rfl, rfl⟩) (.fa rfl tst57 rfl) ?_
                      refine VD.y rfl rfl (.inr ⟨_, _, rfl, _, rfl, rfl⟩) (.ld1 0 rfl tk3 rfl (hce16.at1 (j := 0) rfl)) ?_
                      refine VD.y rfl rfl (.inr ⟨_, _, rfl, _, rfl, rfl⟩) (.leq rfl rfl) ?_
                      refine VD.y rfl rfl (.inr ⟨_, _, rfl, _, rfl, rfl⟩) (.mv rfl) ?_
                      refine VD.dec (s := 77) rfl (fun hc17 => ?_) (fun hc17 => ?_)
                      · -- FFFTFFFTFTT
                        refine VD.gn rfl rfl (.inl ⟨_, rfl, rfl⟩) ?_
                        refine VD.gn rfl rfl (.inl ⟨_, rfl, rfl⟩) ?_
                        refine VD.gn rfl rfl (.inl ⟨_, rfl, rfl⟩) ?_
                        refine VD.gn rfl rfl (.inl ⟨_, rfl, rfl⟩) ?_
                        refine VD.gn rfl rfl (.inl ⟨_, rfl, rfl⟩) ?_
                        refine VD.gn rfl rfl (.inl ⟨_, rfl, rfl⟩) ?_
                        refine VD.gn rfl rfl (.inl ⟨_, rfl, rfl⟩) ?_
                        refine VD.gn rfl rfl (.inl ⟨_, rfl, rfl⟩) ?_
                        refine VD.gn rfl rfl (.inl ⟨_, rfl, rfl⟩) ?_
                        refine VD.gn rfl rfl (.inl ⟨_, rfl, rfl⟩) ?_
                        refine VD.gn rfl rfl (.inl ⟨_, rfl, rfl⟩) ?_
                        refine VD.nil rfl ?_ rfl
                        refine VO.gN ?_
                        refine VO.gy rfl ⟨_, rfl, rfl⟩ (.pT rfl rfl) ?_
                        refine VO.gy rfl ⟨_, rfl, rfl⟩ (.pT rfl rfl) ?_
                        refine VO.y rfl (.pF rfl rfl) ?_
                        refine VO.k6 0 1 5 19 23 92 ?_
                        refine outN ?_
                        refine VC.condT rfl ?_
                        refine VC.rs ?_
                        refine VO.as ?_
                        refine VO.keep [0] [(0, wm W)] (by kernel_rfl) ?_
                        refine VO.k7 0 1 4 5 19 23 92 ?_
                        refine VC.ret ?_
                        refine outBR ?_
                        refine outR ?_
                        refine outR ?_
                        refine outBR ?_
                        refine outR ?_
                        refine ⟨_, _, res_run (rs := [.tmp 4]) rfl (.tmp rfl .nil), fun W_ hI => out_of (l := []) hI [] rfl rfl (mle_refl _) (fun hS_ => ?_)⟩
                        dsimp only [packV]
                        all_goals (first | rfl | (exact fin0_sCheck8_ok))
                      · -- FFFTFFFTFTF
                        refine VD.y rfl rfl (.inr ⟨_, _, rfl, _, rfl, rfl⟩) (.mv rfl) ?_
                        refine VD.y rfl rfl (.inr ⟨_, _, rfl, _, rfl, rfl⟩) (.mv rfl) ?_
                        refine VD.y rfl rfl (.inr ⟨_, _, rfl, _, rfl, rfl⟩) (.ixI k rfl rfl tsl23 rfl bd) ?_
                        refine VD.y rfl rfl (.inr ⟨_, _, rfl, _, rfl, rfl⟩) (.fa rfl tst57 rfl) ?_
                        refine VD.y rfl rfl (.inr ⟨_, _, rfl, _, rfl, rfl⟩) (.ld1 0 rfl tk3 rfl (hce5.at1 (j := 1) rfl)) ?_
                        refine VD.y rfl rfl (.inr ⟨_, _, rfl, _, rfl, rfl⟩) (.mv rfl) ?_
                        refine VD.y rfl rfl (.inr ⟨_, _, rfl, _, rfl, rfl⟩) (.mv rfl) ?_
                        refine VD.y rfl rfl (.inr ⟨_, _, rfl, _, rfl, rfl⟩) (.sub rfl rfl rfl ⟨bd, bd⟩) ?_
                        refine VD.y rfl rfl (.inr ⟨_, _, rfl, _, rfl, rfl⟩) (.ixI ((((k : Nat) : Int) - 1).toNat) rfl rfl tsl23 bd bd) ?_
                        refine VD.y rfl rfl (.inr ⟨_, _, rfl, _, rfl, rfl⟩) (.fa rfl tst57 rfl) ?_
                        refine VD.y rfl rfl (.inr ⟨_, _, rfl, _, rfl, rfl⟩) (.ld1 0 rfl tk3 rfl (hce16.at1 (j := 1) rfl)) ?_
                        refine VD.nil rfl ?_ rfl
                        refine VO.gy rfl ⟨_, rfl, rfl⟩ (.leq rfl rfl) ?_
                        refine VO.gy rfl ⟨_, rfl, rfl⟩ (.pF rfl rfl) ?_
                        refine VO.gy rfl ⟨_, rfl, rfl⟩ (.pT rfl rfl) ?_
                        refine VO.y rfl (.pF rfl rfl) ?_
                        refine VO.k6 0 1 5 19 23 92 ?_
                        refine outN ?_
                        refine VC.cond rfl (fun hc20 => ?_) (fun hc20 => ?_)
                        · -- FFFTFFFTFTFT
                          refine VC.rs ?_
                          refine VO.as ?_
                          refine VO.keep [0] [(0, wm W)] (by kernel_rfl) ?_
                          refine VO.k7 0 1 4 5 19 23 92 ?_
                          refine VC.ret ?_
                          refine outBR ?_
                          refine outR ?_
                          refine outR ?_
                          refine outBR ?_
                          refine outR ?_
                          refine ⟨_, _, res_run (rs := [.tmp 4]) rfl (.tmp rfl .nil), fun W_ hI => out_of (l := []) hI [] rfl rfl (mle_refl _) (fun hS_ => ?_)⟩
                          dsimp only [packV]
                          all_goals (first | rfl | (exact fin0_sCheck8_ok))
                        · -- FFFTFFFTFTFF
                          refine VC.skip ?_
                          refine outBN ?_
                          refine outN ?_
                          refine VC.reg ?_
                          refine VO.mv ?_
                          refine VO.y rfl (.add (c := ((k + 1 : Nat) : Int)) rfl rfl (by omega) ⟨bd, bd⟩) ?_
                          refine VO.as ?_
                          refine VO.keep [0] [(0, wm W)] (by kernel_rfl) ?_
                          refine VO.k6 0 1 5 19 23 92 ?_
                          exact outN ⟨k + 1, ⟨by omega, by (rw [prevS_next ‹d0[k]? = some _›]; omega), by exact hs.trans (step8 ‹d0[k]? = some _› (by omega) (by omega) (by omega) (by omega) (by first | (intro h_; exfalso; omega) | exact fun _ => ⟨_, by assumption, by omega, by omega⟩))⟩, bd, ⟨⟨rfl, rfl, rfl, rfl, trivial⟩, fun _ h => Inv.sub h [0]⟩⟩
                    · -- FFFTFFFTFF
                      refine VD.gn rfl rfl (.inl ⟨_, rfl, rfl⟩) ?_
                      refine VD.gn rfl rfl (.inl ⟨_, rfl, rfl⟩) ?_
                      refine VD.gn rfl rfl (.inl ⟨_, rfl, rfl⟩) ?_
                      refine VD.gn rfl rfl (.inl ⟨_, rfl, rfl⟩) ?_
                      refine VD.gn rfl rfl (.inl ⟨_, rfl, rfl⟩) ?_
                      refine VD.gn rfl rfl (.inl ⟨_, rfl, rfl⟩) ?_
                      refine VD.gn rfl rfl (.inl ⟨_, rfl, rfl⟩) ?_
                      refine VD.gn rfl rfl (.inl ⟨_, rfl, rfl⟩) ?_
                      refine VD.gn rfl rfl (.inl ⟨_, rfl, rfl⟩) ?_
                      refine VD.gn rfl rfl (.inl ⟨_, rfl, rfl⟩) ?_
                      refine VD.gn rfl rfl (.inl ⟨_, rfl, rfl⟩) ?_
                      refine VD.gn rfl rfl (.inl ⟨_, rfl, rfl⟩) ?_
                      refine VD.gn rfl rfl (.inl ⟨_, rfl, rfl⟩) ?_
                      refine VD.gn rfl rfl (.inr ⟨_, rfl, rfl⟩) ?_
                      refine VD.gn rfl rfl (.inr ⟨_, rfl, rfl⟩) ?_
                      refine VD.gn rfl rfl (.inr ⟨_, rfl, rfl⟩) ?_
                      refine VD.gn rfl rfl (.inr ⟨_, rfl, rfl⟩) ?_
                      refine VD.gn rfl rfl (.inr ⟨_, rfl, rfl⟩) ?_
                      refine VD.gn rfl rfl (.inr ⟨_, rfl, rfl⟩) ?_
                      refine VD.gn rfl rfl (.inr ⟨_, rfl, rfl⟩) ?_
                      refine VD.gn rfl rfl (.inr ⟨_, rfl, rfl⟩) ?_
                      refine VD.gn rfl rfl (.inr ⟨_, rfl, rfl⟩) ?_
                      refine VD.gn rfl rfl (.inr ⟨_, rfl, rfl⟩) ?_
                      refine VD.gn rfl rfl (.inr ⟨_, rfl, rfl⟩) ?_
                      refine VD.nil rfl ?_ rfl
                      refine VO.gn rfl (.inr ⟨_, rfl, rfl⟩) ?_
                      refine VO.gN ?_
                      refine VO.gy rfl ⟨_, rfl, rfl⟩ (.pF rfl rfl) ?_
                      refine VO.y rfl (.pF rfl rfl) ?_
                      refine VO.k6 0 1 5 19 23 92 ?_
                      refine outN ?_
                      refine VC.condF rfl ?_
                      refine VC.skip ?_
                      refine outBN ?_
                      refine outN ?_
                      refine VC.reg ?_
                      refine VO.mv ?_
                      refine VO.y rfl (.add (c := ((k + 1 : Nat) : Int)) rfl rfl (by omega) ⟨bd, bd⟩) ?_
                      refine VO.as ?_
                      refine VO.keep [0] [(0, wm W)] (by kernel_rfl) ?_
                      refine VO.k6 0 1 5 19 23 92 ?_
                      exact outN ⟨k + 1, ⟨by omega, by (rw [prevS_next ‹d0[k]? = some _›]; omega), by exact hs.trans (step8 ‹d0[k]? = some _› (by omega) (by omega) (by omega) (by omega) (by first | (intro h_; exfalso; omega) | exact fun _ => ⟨_, by assumption, by omega, by omega⟩))⟩, bd, ⟨⟨rfl, rfl, rfl, rfl, trivial⟩, fun _ h => Inv.sub h [0]⟩⟩
                · -- FFFTFFFF
                  refine VD.gn rfl rfl (.inl ⟨_, rfl, rfl⟩) ?_
                  refine VD.gn rfl rfl (.inl ⟨_, rfl, rfl⟩) ?_
                  refine VD.gn rfl rfl (.inl ⟨_, rfl, rfl⟩) ?_
                  refine VD.gn rfl rfl (.inl ⟨_, rfl, rfl⟩) ?_
                  refine VD.gn rfl rfl (.inl ⟨_, rfl, rfl⟩) ?_
                  refine VD.gn rfl rfl (.inl ⟨_, rfl, rfl⟩) ?_
                  refine VD.y rfl rfl (.inr ⟨_, _, rfl, _, rfl, rfl⟩) (.pF rfl rfl) ?_
                  refine VD.y rfl rfl (.inl rfl) (.pF rfl rfl) ?_
                  refine VD.y rfl rfl (.inl rfl) (.mv rfl) ?_
                  refine VD.y rfl rfl (.inr ⟨_, _, rfl, _, rfl, rfl⟩) (.mv rfl) ?_
                  refine VD.y rfl rfl (.inr ⟨_, _, rfl, _, rfl, rfl⟩) (.gtr rfl rfl) ?_
                  refine VD.y rfl rfl (.inr ⟨_, _, rfl, _, rfl, rfl⟩) (.mv rfl) ?_
                  refine VD.dec (s := 64) rfl (fun hc21 => ?_) (fun hc21 => ?_)
                  · -- FFFTFFFFT
                    refine VD.y rfl rfl (.inr ⟨_, _, rfl, _, rfl, rfl⟩) (.mv rfl) ?_
                    refine VD.y rfl rfl (.inr ⟨_, _, rfl, _, rfl, rfl⟩) (.mv rfl) ?_
                    refine VD.y rfl rfl (.inr ⟨_, _, rfl, _, rfl, rfl⟩) (.ixI k rfl rfl tsl23 rfl bd) ?_
                    refine VD.y rfl rfl (.inr ⟨_, _, rfl, _, rfl, rfl⟩) (.fa rfl tst57 rfl) ?_
                    refine VD.y rfl rfl (.inr ⟨_, _, rfl, _, rfl, rfl⟩) (.ld1 0 rfl tk3 rfl (hce5.at1 (j := 0) rfl)) ?_
                    refine VD.y rfl rfl (.inr ⟨_, _, rfl, _, rfl, rfl⟩) (.mv rfl) ?_
                    refine VD.y rfl rfl (.inr ⟨_, _, rfl, _, rfl, rfl⟩) (.mv rfl) ?_
                    refine VD.y rfl rfl (.inr ⟨_, _, rfl, _, rfl, rfl⟩) (.sub rfl rfl rfl ⟨bd, bd⟩) ?_
                    obtain ⟨x23, hx23⟩ : ∃ z_, (d0)[(((k : Nat) : Int) - 1).toNat]? = some z_ := ⟨_, List.getElem?_eq_getElem bd⟩
                    obtain ⟨gg23, oo23, ec23, ea23, hce23, hre23⟩ := h0.elem hx23
                    cases ea23
                    obtain ⟨rfl, q23_0, q23_1⟩ := open_Start (x0 := x23.1) (x1 := x23.2) hre23
                    simp only [inK] at q23_0
                    simp only [inK] at q23_1
                    refine VD.y rfl rfl (.inr ⟨_, _, rfl, _, rfl, rfl⟩) (.ixI ((((k : Nat) : Int) - 1).toNat) rfl rfl tsl23 bd bd) ?_
                    refine VD.y rfl rfl (.inr ⟨_, _, rfl, _, rfl, rfl⟩) (.fa rfl tst57 rfl) ?_
                    refine VD.y rfl rfl (.inr ⟨_, _, rfl, _, rfl, rfl⟩) (.ld1 0 rfl tk3 rfl (hce23.at1 (j := 0) rfl)) ?_
                    refine VD.y rfl rfl (.inr ⟨_, _, rfl, _, rfl, rfl⟩) (.leq rfl rfl) ?_
                    refine VD.y rfl rfl (.inr ⟨_, _, rfl, _, rfl, rfl⟩) (.mv rfl) ?_
                    refine VD.dec (s := 77) rfl (fun hc24 => ?_) (fun hc24 => ?_)
                    · -- FFFTFFFFTT
                      refine VD.gn rfl rfl (.inl ⟨_, rfl, rfl⟩) ?_
                      refine VD.gn rfl rfl (.inl ⟨_, rfl, rfl⟩) ?_
                      refine VD.gn rfl rfl (.inl ⟨_, rfl, rfl⟩) ?_
                      refine VD.gn rfl rfl (.inl ⟨_, rfl, rfl⟩) ?_
                      refine VD.gn rfl rfl (.inl ⟨_, rfl, rfl⟩) ?_
                      refine VD.gn rfl rfl (.inl ⟨_, rfl, rfl⟩) ?_
                      refine VD.gn rfl rfl (.inl ⟨_, rfl, rfl⟩) ?_
                      refine VD.gn rfl rfl (.inl ⟨_, rfl, rfl⟩) ?_
                      refine VD.gn rfl rfl (.inl ⟨_, rfl, rfl⟩) ?_
                      refine VD.gn rfl rfl (.inl ⟨_, rfl, rfl⟩) ?_
                      refine VD.gn rfl rfl (.inl ⟨_, rfl, rfl⟩) ?_
                      refine VD.nil rfl ?_ rfl
                      refine VO.gN ?_
                      refine VO.gy rfl ⟨_, rfl, rfl⟩ (.pT rfl rfl) ?_
                      refine VO.gy rfl ⟨_, rfl, rfl⟩ (.pT rfl rfl) ?_
                      refine VO.y rfl (.pF rfl rfl) ?_
                      refine VO.k6 0 1 5 19 23 92 ?_
                      refine outN ?_
                      refine VC.condT rfl ?_
                      refine VC.rs ?_
                      refine VO.as ?_
                      refine VO.keep [0] [(0, wm W)] (by kernel_rfl) ?_
                      refine VO.k7 0 1 4 5 19 23 92 ?_
                      refine VC.ret ?_
                      refine outBR ?_
                      refine outR ?_
                      refine outR ?_
                      refine outBR ?_
                      refine outR ?_
                      refine ⟨_, _, res_run (rs := [.tmp 4]) rfl (.tmp rfl .nil), fun W_ hI => out_of (l := []) hI [] rfl rfl (mle_refl _) (fun hS_ => ?_)⟩
                      dsimp only [packV]
                      all_goals (first | rfl | (exact fin0_sCheck8_ok))
                    · -- FFFTFFFFTF
                      refine VD.y rfl rfl (.inr ⟨_, _, rfl, _, rfl, rfl⟩) (.mv rfl) ?_
                      refine VD.y rfl rfl (.inr ⟨_, _, rfl, _, rfl, rfl⟩) (.mv rfl) ?_
                      refine VD.y rfl rfl (.inr ⟨_, _, rfl, _, rfl, rfl⟩) (.ixI k rfl rfl tsl23 rfl bd) ?_
                      refine VD.y rfl rfl (.inr ⟨_, _, rfl, _, rfl, rfl⟩) (.fa rfl tst57 rfl) ?_
                      refine VD.y rfl rfl (.inr ⟨_, _, rfl, _, rfl, rfl⟩) (.ld1 0 rfl tk3 rfl (hce5.at1 (j := 1) rfl)) ?_
                      refine VD.y rfl rfl (.inr ⟨_, _, rfl, _, rfl, rfl⟩) (.mv rfl) ?_
                      refine VD.y rfl rfl (.inr ⟨_, _, rfl, _, rfl, rfl⟩) (.mv rfl) ?_
                      refine VD.y rfl rfl (.inr ⟨_, _, rfl, _, rfl, rfl⟩) (.sub rfl rfl rfl ⟨bd, bd⟩) ?_
                      refine VD.y rfl rfl (.inr ⟨_, _, rfl, _, rfl, rfl⟩) (.ixI ((((k : Nat) : Int) - 1).toNat) rfl rfl tsl23 bd bd) ?_
                      refine VD.y rfl rfl (.inr ⟨_, _, rfl, _, rfl, rfl⟩) (.fa rfl tst57 rfl) ?_
                      refine VD.y rfl rfl (.inr ⟨_, _, rfl, _, rfl, rfl⟩) (.ld1 0 rfl tk3 rfl (hce23.at1 (j := 1) rfl)) ?_
                      refine VD.nil rfl ?_ rfl
                      refine VO.gy rfl ⟨_, rfl, rfl⟩ (.leq rfl rfl) ?_
                      refine VO.gy rfl ⟨_, rfl, rfl⟩ (.pF rfl rfl) ?_
                      refine VO.gy rfl ⟨_, rfl, rfl⟩ (.pT rfl rfl) ?_
                      refine VO.y rfl (.pF rfl rfl) ?_
                      refine VO.k6 0 1 5 19 23 92 ?_
                      refine outN ?_
                      refine VC.cond rfl (fun hc27 => ?_) (fun hc27 => ?_)
                      · -- FFFTFFFFTFT
                        refine VC.rs ?_
                        refine VO.as ?_
                        refine VO.keep [0] [(0, wm W)] (by kernel_rfl) ?_
                        refine VO.k7 0 1 4 5 19 23 92 ?_
                        refine VC.ret ?_
                        refine outBR ?_
                        refine outR ?_
                        refine outR ?_
                        refine outBR ?_
                        refine outR ?_
                        refine ⟨_, _, res_run (rs := [.tmp 4]) rfl (.tmp rfl .nil), fun W_ hI => out_of (l := []) hI [] rfl rfl (mle_refl _) (fun hS_ => ?_)⟩
                        dsimp only [packV]
                        all_goals (first | rfl | (exact fin0_sCheck8_ok))
                      · -- FFFTFFFFTFF
                        refine VC.skip ?_
                        refine outBN ?_
                        refine outN ?_
                        refine VC.reg ?_
                        refine VO.mv ?_
                        refine VO.y rfl (.add (c := ((k + 1 : Nat) : Int)) rfl rfl (by omega) ⟨bd, bd⟩) ?_
                        refine VO.as ?_
                        refine VO.keep [0] [(0, wm W)] (by kernel_rfl) ?_
                        refine VO.k6 0 1 5 19 23 92 ?_
                        exact outN ⟨k + 1, ⟨by omega, by (rw [prevS_next ‹d0[k]? = some _›]; omega), by exact hs.trans (step8 ‹d0[k]? = some _› (by omega) (by omega) (by omega) (by omega) (by first | (intro h_; exfalso; omega) | exact fun _ => ⟨_, by assumption, by omega, by omega⟩))⟩, bd, ⟨⟨rfl, rfl, rfl, rfl, trivial⟩, fun _ h => Inv.sub h [0]⟩⟩
                  · -- FFFTFFFFF
                    refine VD.gn rfl rfl (.inl ⟨_, rfl, rfl⟩) ?_
                    refine VD.gn rfl rfl (.inl ⟨_, rfl, rfl⟩) ?_
                    refine VD.gn rfl rfl (.inl ⟨_, rfl, rfl⟩) ?_
                    refine VD.gn rfl rfl (.inl ⟨_, rfl, rfl⟩) ?_
                    refine VD.gn rfl rfl (.inl ⟨_, rfl, rfl⟩) ?_
                    refine VD.gn rfl rfl (.inl ⟨_, rfl, rfl⟩) ?_
                    refine VD.gn rfl rfl (.inl ⟨_, rfl, rfl⟩) ?_
                    refine VD.gn rfl rfl (.inl ⟨_, rfl, rfl⟩) ?_
                    refine VD.gn rfl rfl (.inl ⟨_, rfl, rfl⟩) ?_
                    refine VD.gn rfl rfl (.inl ⟨_, rfl, rfl⟩) ?_
                    refine VD.gn rfl rfl (.inl ⟨_, rfl, rfl⟩) ?_
                    refine VD.gn rfl rfl (.inl ⟨_, rfl, rfl⟩) ?_
                    refine VD.gn rfl rfl (.inl ⟨_, rfl, rfl⟩) ?_
                    refine VD.gn rfl rfl (.inr ⟨_, rfl, rfl⟩) ?_
                    refine VD.gn rfl rfl (.inr ⟨_, rfl, rfl⟩) ?_
                    refine VD.gn rfl rfl (.inr ⟨_, rfl, rfl⟩) ?_
                    refine VD.gn rfl rfl (.inr ⟨_, rfl, rfl⟩) ?_
                    refine VD.gn rfl rfl (.inr ⟨_, rfl, rfl⟩) ?_
                    refine VD.gn rfl rfl (.inr ⟨_, rfl, rfl⟩) ?_
                    refine VD.gn rfl rfl (.inr ⟨_, rfl, rfl⟩) ?_
                    refine VD.gn rfl rfl (.inr ⟨_, rfl, rfl⟩) ?_
                    refine VD.gn rfl rfl (.inr ⟨_, rfl, rfl⟩) ?_
                    refine VD.gn rfl rfl (.inr ⟨_, rfl, rfl⟩) ?_
                    refine VD.gn rfl rfl (.inr ⟨_, rfl, rfl⟩) ?_
                    refine VD.nil rfl ?_ rfl
                    refine VO.gn rfl (.inr ⟨_, rfl, rfl⟩) ?_
                    refine VO.gN ?_
                    refine VO.gy rfl ⟨_, rfl, rfl⟩ (.pF rfl rfl) ?_
                    refine VO.y rfl (.pF rfl rfl) ?_
                    refine VO.k6 0 1 5 19 23 92 ?_
                    refine outN ?_
                    refine VC.condF rfl ?_
                    refine VC.skip ?_
                    refine outBN ?_
                    refine outN ?_
                    refine VC.reg ?_
                    refine VO.mv ?_
                    refine VO.y rfl (.add (c := ((k + 1 : Nat) : Int)) rfl rfl (by omega) ⟨bd, bd⟩) ?_
                    refine VO.as ?_
                    refine VO.keep [0] [(0, wm W)] (by kernel_rfl) ?_
                    refine VO.k6 0 1 5 19 23 92 ?_
                    exact outN ⟨k + 1, ⟨by omega, by (rw [prevS_next ‹d0[k]? = some _›]; omega), by exact hs.trans (step8 ‹d0[k]? = some _› (by omega) (by omega) (by omega) (by omega) (by first | (intro h_; exfalso; omega) | exact fun _ => ⟨_, by assumption, by omega, by omega⟩))⟩, bd, ⟨⟨rfl, rfl, rfl, rfl, trivial⟩, fun _ h => Inv.sub h [0]⟩⟩
        · -- FFFF
          refine VC.exit ?_
          refine outE ?_
          refine outE ?_
          refine outBB ?_
          refine outN ?_
          refine VC.rs ?_
          refine VO.as ?_
          refine VO.k6 0 1 4 5 19 23 ?_
          refine VC.ret ?_
          refine ⟨_, _, res_run (rs := [.tmp 4]) rfl (.tmp rfl .nil), fun W_ hI => out_of (l := []) hI [] rfl rfl (mle_refl _) (fun hS_ => ?_)⟩
          dsimp only [packV]
          all_goals (first | rfl | (exact fin0_sCheck8_ok))
theorem fin0_hello11_ok {P : Prop} (h : P := by first | exact congrArg Value.bool (decide_eq_false (by unfold helloM; omega)).symm | exact congrArg Value.bool (decide_eq_false (hello_last (by assumption) (by omega) (by omega))).symm | exact congrArg Value.bool (decide_eq_decide.2 (hello_iff ⟨by omega, by omega⟩ (by omega) (lastOk_good (by assumption) (by omega) (by omega)))) | exact congrArg Value.bool (decide_eq_decide.2 (hello_iff ⟨by omega, by omega⟩ (by omega) (lastOk_nil (by omega))))) : P := h
theorem hello11_ok (W : World) {v0 : List Value} {d0 : DMessage} (h0 : Rd TMessage (wm W) v0 d0) : CallR Try.prog 40 [.agg v0.toArray] W (mnil) (fun v m' => v = .bool (decide (helloM d0))) := by
  obtain ⟨p0_A4, p0_c4, p0_A7, p0_c7, rfl, p0_0, p0_1, p0_2, p0_3, p0_4, p0_5, p0_6, p0_7⟩ := open_Message (x0 := d0.1) (x1 := d0.2.1) (x2 := d0.2.2.1) (x3 := d0.2.2.2.1) (x4 := d0.2.2.2.2.1) (x5 := d0.2.2.2.2.2.1) (x6 := d0.2.2.2.2.2.2.1) (x7 := d0.2.2.2.2.2.2.2) h0
  simp only [inK] at p0_0
  simp only [inK] at p0_1
  simp only [inK] at p0_2
  simp only [inK] at p0_3
  have p0_r4 := Rd.room p0_4
  simp only [inK] at p0_5
  simp only [inK] at p0_6
  have p0_r7 := Rd.room p0_7
  refine CallR.ofA (n := 45) Try.func40 rfl rfl rfl ?_
  refine VC.rs ?_
  refine VO.box (cs := [Value.int .i64 (d0.1), Value.int .i64 (d0.2.1), Value.int .u8 (d0.2.2.1), Value.int .i64 (d0.2.2.2.1), Value.slice p0_A4 (d0.2.2.2.2.1.length) (p0_c4), Value.int .i64 (d0.2.2.2.2.2.1), Value.int .i64 (d0.2.2.2.2.2.2.1), Value.slice p0_A7 (d0.2.2.2.2.2.2.2.length) (p0_c7)]) 102 rfl rfl rfl (fun g1 => ?_)
  refine VO.as ?_
  refine VO.k3 0 1 2 ?_
  refine VC.seq ?_
  refine VC.rs ?_
  refine VO.y rfl (.fa rfl tst26 rfl) ?_
  refine VO.y rfl (.ld1 102 rfl tk22 rfl (cellsAt_one rfl rfl)) ?_
  refine VO.y rfl (.lss rfl rfl) ?_
  refine VO.mv ?_
  refine VO.dec (t := 7) rfl (fun hc3 => ?_) (fun hc3 => ?_)
  · -- T
    refine VO.gN ?_
    refine VO.gN ?_
    refine VO.gN ?_
    refine VO.y rfl (.pT rfl rfl) ?_
    refine VO.mv ?_
    refine VO.gN ?_
    refine VO.gN ?_
    refine VO.gN ?_
    refine VO.gN ?_
    refine VO.gN ?_
    refine VO.gN ?_
    refine VO.y rfl (.pT rfl rfl) ?_
    refine VO.k4 0 1 2 19 ?_
    refine VC.condT rfl ?_
    refine VC.rs ?_
    refine VO.as ?_
    refine VO.keep [102, 0] [(102, mone g1 (.cells [Value.int .i64 (d0.1), Value.int .i64 (d0.2.1), Value.int .u8 (d0.2.2.1), Value.int .i64 (d0.2.2.2.1), Value.slice p0_A4 (d0.2.2.2.2.1.length) (p0_c4), Value.int .i64 (d0.2.2.2.2.2.1), Value.int .i64 (d0.2.2.2.2.2.2.1), Value.slice p0_A7 (d0.2.2.2.2.2.2.2.length) (p0_c7)].toArray 26 (0, 0))), (0, wm W)] (by kernel_rfl) ?_
    refine VO.k4 0 1 2 19 ?_
    refine VC.ret ?_
    refine outR ?_
    refine ⟨_, _, res_run (rs := [.tmp 2]) rfl (.tmp rfl .nil), fun W_ hI => out_of (l := []) hI [] rfl rfl (mle_refl _) (fun hS_ => ?_)⟩
    dsimp only [packV]
    all_goals (first | rfl | (exact fin0_hello11_ok))
  · -- F
    refine VO.gy rfl ⟨_, rfl, rfl⟩ (.fa rfl tst26 rfl) ?_
    refine VO.gy rfl ⟨_, rfl, rfl⟩ (.ld1 102 rfl tk22 rfl (cellsAt_one rfl rfl)) ?_
    refine VO.gy rfl ⟨_, rfl, rfl⟩ (.gtr rfl rfl) ?_
    refine VO.y rfl (.pF rfl rfl) ?_
    refine VO.mv ?_
    refine VO.dec (t := 12) rfl (fun hc4 => ?_) (fun hc4 => ?_)
    · -- FT
      refine VO.gN ?_
      refine VO.gN ?_
      refine VO.gN ?_
      refine VO.gN ?_
      refine VO.gN ?_
      refine VO.gN ?_
      refine VO.y rfl (.pT rfl rfl) ?_
      refine VO.k4 0 1 2 19 ?_
      refine VC.condT rfl ?_
      refine VC.rs ?_
      refine VO.as ?_
      refine VO.keep [102, 0] [(102, mone g1 (.cells [Value.int .i64 (d0.1), Value.int .i64 (d0.2.1), Value.int .u8 (d0.2.2.1), Value.int .i64 (d0.2.2.2.1), Value.slice p0_A4 (d0.2.2.2.2.1.length) (p0_c4), Value.int .i64 (d0.2.2.2.2.2.1), Value.int .i64 (d0.2.2.2.2.2.2.1), Value.slice p0_A7 (d0.2.2.2.2.2.2.2.length) (p0_c7)].toArray 26 (0, 0))), (0, wm W)] (by kernel_rfl) ?_
      refine VO.k4 0 1 2 19 ?_
      refine VC.ret ?_
      refine outR ?_
      refine ⟨_, _, res_run (rs := [.tmp 2]) rfl (.tmp rfl .nil), fun W_ hI => out_of (l := []) hI [] rfl rfl (mle_refl _) (fun hS_ => ?_)⟩
      dsimp only [packV]
      all_goals (first | rfl | (exact fin0_hello11_ok))
    · -- FF
      refine VO.gy rfl ⟨_, rfl, rfl⟩ (.fa rfl tst26 rfl) ?_
      refine VO.gy rfl ⟨_, rfl, rfl⟩ (.ld1 102 rfl tk23 rfl (cellsAt_one rfl rfl)) ?_
      refine VO.gy rfl ⟨_, rfl, rfl⟩ (.fa rfl tst26 rfl) ?_
      refine VO.gy rfl ⟨_, rfl, rfl⟩ (.ld1 102 rfl tk3 rfl (cellsAt_one rfl rfl)) ?_
      refine VO.gcallN 105 rfl ⟨_, rfl, rfl⟩ fnOk72 rfl (fun W hW => sCheck8_ok W (Rd.mono p0_4 (hW.at (i := 0) rfl)) d0.2.2.2.1 bdk) (fun v5 m5 hv5 => ?_)
      subst hv5
      have hfa6 := sCheck_range d0.2.2.2.2.1 d0.2.2.2.1
      refine VO.gy rfl ⟨_, rfl, rfl⟩ (.neq rfl rfl) ?_
      refine VO.y rfl (.pF rfl rfl) ?_
      refine VO.k4 0 1 2 19 ?_
      refine VC.cond rfl (fun hc7 => ?_) (fun hc7 => ?_)
      · -- FFT
        refine VC.rs ?_
        refine VO.as ?_
        refine VO.keep [102, 0] [(102, mone g1 (.cells [Value.int .i64 (d0.1), Value.int .i64 (d0.2.1), Value.int .u8 (d0.2.2.1), Value.int .i64 (d0.2.2.2.1), Value.slice p0_A4 (d0.2.2.2.2.1.length) (p0_c4), Value.int .i64 (d0.2.2.2.2.2.1), Value.int .i64 (d0.2.2.2.2.2.2.1), Value.slice p0_A7 (d0.2.2.2.2.2.2.2.length) (p0_c7)].toArray 26 (0, 0))), (0, wm W)] (by kernel_rfl) ?_
        refine VO.k4 0 1 2 19 ?_
        refine VC.ret ?_
        refine outR ?_
        refine ⟨_, _, res_run (rs := [.tmp 2]) rfl (.tmp rfl .nil), fun W_ hI => out_of (l := []) hI [] rfl rfl (mle_refl _) (fun hS_ => ?_)⟩
        dsimp only [packV]
        all_goals (first | rfl | (exact fin0_hello11_ok))
      · -- FFF
        refine VC.skip ?_
        refine outN ?_
        refine VC.rs ?_
        refine VO.y rfl (.fa rfl tst26 rfl) ?_
        refine VO.y rfl (.ld1 102 rfl tk23 rfl (cellsAt_one rfl rfl)) ?_
        refine VO.y rfl (.lenS rfl tsl23) ?_
        refine VO.as ?_
        refine VO.keep [102, 0] [(102, mone g1 (.cells [Value.int .i64 (d0.1), Value.int .i64 (d0.2.1), Value.int .u8 (d0.2.2.1), Value.int .i64 (d0.2.2.2.1), Value.slice p0_A4 (d0.2.2.2.2.1.length) (p0_c4), Value.int .i64 (d0.2.2.2.2.2.1), Value.int .i64 (d0.2.2.2.2.2.2.1), Value.slice p0_A7 (d0.2.2.2.2.2.2.2.length) (p0_c7)].toArray 26 (0, 0))), (0, wm W)] (by kernel_rfl) ?_
        refine VO.k5 0 1 2 3 19 ?_
        refine VC.seq ?_
        refine VC.seq ?_
        refine VC.regD _ 12 [(0, true), (1, true), (2, true), (3, true), (4, true), (5, true), (6, true), (7, true), (8, true), (9, true), (10, true), (11, true)] follows (by kernel_rfl) (fun _ h => h.sub [102, 0]) ?_
        refine VD.y rfl rfl (.inl rfl) (.mv rfl) ?_
        refine VD.y rfl rfl (.inl rfl) (.gtr rfl rfl) ?_
        refine VD.y rfl rfl (.inl rfl) (.mv rfl) ?_
        refine VD.dec (s := 25) rfl (fun hc8 => ?_) (fun hc8 => ?_)
        · -- FFFT
          refine VD.y rfl rfl (.inr ⟨_, _, rfl, _, rfl, rfl⟩) (.fa rfl tst26 rfl) ?_
          refine VD.y rfl rfl (.inr ⟨_, _, rfl, _, rfl, rfl⟩) (.ld1 102 rfl tk23 rfl (cellsAt_one rfl rfl)) ?_
          refine VD.y rfl rfl (.inr ⟨_, _, rfl, _, rfl, rfl⟩) (.mv rfl) ?_
          refine VD.y rfl rfl (.inr ⟨_, _, rfl, _, rfl, rfl⟩) (.sub rfl rfl rfl ⟨bd, bd⟩) ?_
          obtain ⟨x9, hx9⟩ : ∃ z_, (d0.2.2.2.2.1)[(((d0.2.2.2.2.1.length : Nat) : Int) - 1).toNat]? = some z_ := ⟨_, List.getElem?_eq_getElem bd⟩
          obtain ⟨gg9, oo9, ec9, ea9, hce9, hre9⟩ := p0_4.elem hx9
          cases ea9
          obtain ⟨rfl, q9_0, q9_1⟩ := open_Start (x0 := x9.1) (x1 := x9.2) hre9
          simp only [inK] at q9_0
          simp only [inK] at q9_1
          refine VD.y rfl rfl (.inr ⟨_, _, rfl, _, rfl, rfl⟩) (.ixI ((((d0.2.2.2.2.1.length : Nat) : Int) - 1).toNat) rfl rfl tsl23 bd bd) ?_
          refine VD.y rfl rfl (.inr ⟨_, _, rfl, _, rfl, rfl⟩) (.fa rfl tst57 rfl) ?_
          refine VD.y rfl rfl (.inr ⟨_, _, rfl, _, rfl, rfl⟩) (.ld1 0 rfl tk3 rfl (hce9.at1 (j := 0) rfl)) ?_
          refine VD.y rfl rfl (.inr ⟨_, _, rfl, _, rfl, rfl⟩) (.fa rfl tst26 rfl) ?_
          refine VD.y rfl rfl (.inr ⟨_, _, rfl, _, rfl, rfl⟩) (.ld1 102 rfl tk3 rfl (cellsAt_one rfl rfl)) ?_
          refine VD.nil rfl ?_ rfl
          refine VO.gy rfl ⟨_, rfl, rfl⟩ (.gtr rfl rfl) ?_
          refine VO.y rfl (.pT rfl rfl) ?_
          refine VO.k6 0 1 2 3 19 36 ?_
          refine outN ?_
          refine VC.cond rfl (fun hc10 => ?_) (fun hc10 => ?_)
          · -- FFFTT
            refine VC.rs ?_
            refine VO.as ?_
            refine VO.k6 0 1 2 3 19 36 ?_
            refine VC.ret ?_
            refine outR ?_
            refine ⟨_, _, res_run (rs := [.tmp 2]) rfl (.tmp rfl .nil), fun W_ hI => out_of (l := []) hI [] rfl rfl (mle_refl _) (fun hS_ => ?_)⟩
            dsimp only [packV]
            all_goals (first | rfl | (exact fin0_hello11_ok))
          · -- FFFTF
            refine VC.skip ?_
            refine outN ?_
            refine VC.rs ?_
            refine VO.y rfl (.fa rfl tst26 rfl) ?_
            refine VO.y rfl (.ld1 102 rfl tk3 rfl (cellsAt_one rfl rfl)) ?_
            refine VO.y rfl (.fa rfl tst26 rfl) ?_
            refine VO.y rfl (.ld1 102 rfl tk3 rfl (cellsAt_one rfl rfl)) ?_
            refine VO.y rfl (.fa rfl tst26 rfl) ?_
            refine VO.y rfl (.ld1 102 rfl tk24 rfl (cellsAt_one rfl rfl)) ?_
            refine VO.y rfl (.bst (cs := [Value.int .i64 (0), Value.int .i64 (0), Value.int .u8 (0), Value.int .i64 (0), Value.slice none (0) (0), Value.int .i64 (d0.2.2.2.2.2.1), Value.int .i64 (d0.2.2.2.2.2.2.1), Value.slice p0_A7 (d0.2.2.2.2.2.2.2.length) (p0_c7)]) rfl tst26 tz26 rfl) ?_
            refine VO.callN 111 rfl fnOk42 rfl (fun W hW => plain11_ok W (mk_Message (m := wm W) 0 0 0 0 [] d0.2.2.2.2.2.1 d0.2.2.2.2.2.2.1 d0.2.2.2.2.2.2.2 bdk bdk bdk bdk (Rd.nil _ _ none 0 (Nat.zero_le _)) bdk bdk (Rd.mono p0_7 (hW.at (i := 0) rfl)))) (fun v11 m11 hv11 => ?_)
            try dsimp only at hv11
            subst hv11
            refine VO.as ?_
            refine VO.k6 0 1 2 3 19 36 ?_
            refine VC.ret ?_
            refine ⟨_, _, res_run (rs := [.tmp 2]) rfl (.tmp rfl .nil), fun W_ hI => out_of (l := []) hI [] rfl rfl (mle_refl _) (fun hS_ => ?_)⟩
            dsimp only [packV]
            all_goals (first | rfl | (exact fin0_hello11_ok))
        · -- FFFF
          refine VD.gn rfl rfl (.inl ⟨_, rfl, rfl⟩) ?_
          refine VD.gn rfl rfl (.inl ⟨_, rfl, rfl⟩) ?_
          refine VD.gn rfl rfl (.inl ⟨_, rfl, rfl⟩) ?_
          refine VD.gn rfl rfl (.inl ⟨_, rfl, rfl⟩) ?_
          refine VD.gn rfl rfl (.inl ⟨_, rfl, rfl⟩) ?_
          refine VD.gn rfl rfl (.inl ⟨_, rfl, rfl⟩) ?_
          refine VD.gn rfl rfl (.inl ⟨_, rfl, rfl⟩) ?_
          refine VD.gn rfl rfl (.inl ⟨_, rfl, rfl⟩) ?_
          refine VD.gn rfl rfl (.inl ⟨_, rfl, rfl⟩) ?_
          refine VD.nil rfl ?_ rfl
          refine VO.gN ?_
          refine VO.y rfl (.pF rfl rfl) ?_
          refine VO.k6 0 1 2 3 19 36 ?_
          refine outN ?_
          refine VC.condF rfl ?_
          refine VC.skip ?_
          refine outN ?_
          refine VC.rs ?_
          refine VO.y rfl (.fa rfl tst26 rfl) ?_
          refine VO.y rfl (.ld1 102 rfl tk3 rfl (cellsAt_one rfl rfl)) ?_
          refine VO.y rfl (.fa rfl tst26 rfl) ?_
          refine VO.y rfl (.ld1 102 rfl tk3 rfl (cellsAt_one rfl rfl)) ?_
          refine VO.y rfl (.fa rfl tst26 rfl) ?_
          refine VO.y rfl (.ld1 102 rfl tk24 rfl (cellsAt_one rfl rfl)) ?_
          refine VO.y rfl (.bst (cs := [Value.int .i64 (0), Value.int .i64 (0), Value.int .u8 (0), Value.int .i64 (0), Value.slice none (0) (0), Value.int .i64 (d0.2.2.2.2.2.1), Value.int .i64 (d0.2.2.2.2.2.2.1), Value.slice p0_A7 (d0.2.2.2.2.2.2.2.length) (p0_c7)]) rfl tst26 tz26 rfl) ?_
          refine VO.callN 112 rfl fnOk42 rfl (fun W hW => plain11_ok W (mk_Message (m := wm W) 0 0 0 0 [] d0.2.2.2.2.2.1 d0.2.2.2.2.2.2.1 d0.2.2.2.2.2.2.2 bdk bdk bdk bdk (Rd.nil _ _ none 0 (Nat.zero_le _)) bdk bdk (Rd.mono p0_7 (hW.at (i := 0) rfl)))) (fun v12 m12 hv12 => ?_)
          try dsimp only at hv12
          subst hv12
          refine VO.as ?_
          refine VO.k6 0 1 2 3 19 36 ?_
          refine VC.ret ?_
          refine ⟨_, _, res_run (rs := [.tmp 2]) rfl (.tmp rfl .nil), fun W_ hI => out_of (l := []) hI [] rfl rfl (mle_refl _) (fun hS_ => ?_)⟩
          dsimp only [packV]
          all_goals (first | rfl | (exact fin0_hello11_ok))
theorem fin0_shipped11_ok {P : Prop} (h : P := by first | exact congrArg Value.bool (decide_eq_false (by unfold shipM; omega)).symm | exact congrArg Value.bool (decide_eq_false (ship_len (by assumption))).symm | exact congrArg Value.bool (decide_eq_false (fun e => by have := e.2.2.2.2.2.1 _ (List.mem_of_getElem? ‹_[k]? = some _›); omega)).symm | exact congrArg Value.bool (decide_eq_false (fun e => absurd (none_iff.2 e.2.2.2.2.1) (by assumption))).symm | exact congrArg Value.bool (decide_eq_decide.2 (by have ha2 := ha; rw [List.take_of_length_le (by omega)] at ha2; exact ship_iff (by omega) (by omega) ‹¬ ¬ decide _ = decide _› (by omega) (And.left (by assumption)) ha2))) : P := h
theorem shipped11_ok (W : World) {v0 : List Value} {d0 : DMessage} (h0 : Rd TMessage (wm W) v0 d0) : CallR Try.prog 41 [.agg v0.toArray] W (mnil) (fun v m' => v = .bool (decide (shipM d0))) := by
  obtain ⟨p0_A4, p0_c4, p0_A7, p0_c7, rfl, p0_0, p0_1, p0_2, p0_3, p0_4, p0_5, p0_6, p0_7⟩ := open_Message (x0 := d0.1) (x1 := d0.2.1) (x2 := d0.2.2.1) (x3 := d0.2.2.2.1) (x4 := d0.2.2.2.2.1) (x5 := d0.2.2.2.2.2.1) (x6 := d0.2.2.2.2.2.2.1) (x7 := d0.2.2.2.2.2.2.2) h0
  simp only [inK] at p0_0
  simp only [inK] at p0_1
  simp only [inK] at p0_2
  simp only [inK] at p0_3
  have p0_r4 := Rd.room p0_4
  simp only [inK] at p0_5
  simp only [inK] at p0_6
  have p0_r7 := Rd.room p0_7
  refine CallR.ofA (n := 75) Try.func41 rfl rfl rfl ?_
  refine VC.rs ?_
  refine VO.box (cs := [Value.int .i64 (d0.1), Value.int .i64 (d0.2.1), Value.int .u8 (d0.2.2.1), Value.int .i64 (d0.2.2.2.1), Value.slice p0_A4 (d0.2.2.2.2.1.length) (p0_c4), Value.int .i64 (d0.2.2.2.2.2.1), Value.int .i64 (d0.2.2.2.2.2.2.1), Value.slice p0_A7 (d0.2.2.2.2.2.2.2.length) (p0_c7)]) 102 rfl rfl rfl (fun g1 => ?_)
  refine VO.as ?_
  refine VO.k3 0 1 2 ?_
  refine VC.seq ?_
  refine VC.rs ?_
  refine VO.y rfl (.fa rfl tst26 rfl) ?_
  refine VO.y rfl (.ld1 102 rfl tk3 rfl (cellsAt_one rfl rfl)) ?_
  refine VO.y rfl (.lss rfl rfl) ?_
  refine VO.mv ?_
  refine VO.dec (t := 7) rfl (fun hc3 => ?_) (fun hc3 => ?_)
  · -- T
    refine VO.gN ?_
    refine VO.gN ?_
    refine VO.gN ?_
    refine VO.y rfl (.pT rfl rfl) ?_
    refine VO.mv ?_
    refine VO.gN ?_
    refine VO.gN ?_
    refine VO.gN ?_
    refine VO.y rfl (.pT rfl rfl) ?_
    refine VO.mv ?_
    refine VO.gN ?_
    refine VO.gN ?_
    refine VO.gN ?_
    refine VO.gN ?_
    refine VO.gN ?_
    refine VO.y rfl (.pT rfl rfl) ?_
    refine VO.mv ?_
    refine VO.gN ?_
    refine VO.gN ?_
    refine VO.gN ?_
    refine VO.gN ?_
    refine VO.gN ?_
    refine VO.gN ?_
    refine VO.gN ?_
    refine VO.y rfl (.pT rfl rfl) ?_
    refine VO.mv ?_
    refine VO.gN ?_
    refine VO.gN ?_
    refine VO.gN ?_
    refine VO.gN ?_
    refine VO.y rfl (.pT rfl rfl) ?_
    refine VO.k4 0 1 2 38 ?_
    refine VC.condT rfl ?_
    refine VC.rs ?_
    refine VO.as ?_
    refine VO.keep [102, 0] [(102, mone g1 (.cells [Value.int .i64 (d0.1), Value.int .i64 (d0.2.1), Value.int .u8 (d0.2.2.1), Value.int .i64 (d0.2.2.2.1), Value.slice p0_A4 (d0.2.2.2.2.1.length) (p0_c4), Value.int .i64 (d0.2.2.2.2.2.1), Value.int .i64 (d0.2.2.2.2.2.2.1), Value.slice p0_A7 (d0.2.2.2.2.2.2.2.length) (p0_c7)].toArray 26 (0, 0))), (0, wm W)] (by kernel_rfl) ?_
    refine VO.k4 0 1 2 38 ?_
    refine VC.ret ?_
    refine outR ?_
    refine ⟨_, _, res_run (rs := [.tmp 2]) rfl (.tmp rfl .nil), fun W_ hI => out_of (l := []) hI [] rfl rfl (mle_refl _) (fun hS_ => ?_)⟩
    dsimp only [packV]
    all_goals (first | rfl | (exact fin0_shipped11_ok))
  · -- F
    refine VO.gy rfl ⟨_, rfl, rfl⟩ (.fa rfl tst26 rfl) ?_
    refine VO.gy rfl ⟨_, rfl, rfl⟩ (.ld1 102 rfl tk3 rfl (cellsAt_one rfl rfl)) ?_
    refine VO.gy rfl ⟨_, rfl, rfl⟩ (.gtr rfl rfl) ?_
    refine VO.y rfl (.pF rfl rfl) ?_
    refine VO.mv ?_
    refine VO.dec (t := 12) rfl (fun hc4 => ?_) (fun hc4 => ?_)
    · -- FT
      refine VO.gN ?_
      refine VO.gN ?_
      refine VO.gN ?_
      refine VO.y rfl (.pT rfl rfl) ?_
      refine VO.mv ?_
      refine VO.gN ?_
      refine VO.gN ?_
      refine VO.gN ?_
      refine VO.gN ?_
      refine VO.gN ?_
      refine VO.y rfl (.pT rfl rfl) ?_
      refine VO.mv ?_
      refine VO.gN ?_
      refine VO.gN ?_
      refine VO.gN ?_
      refine VO.gN ?_
      refine VO.gN ?_
      refine VO.gN ?_
      refine VO.gN ?_
      refine VO.y rfl (.pT rfl rfl) ?_
      refine VO.mv ?_
      refine VO.gN ?_
      refine VO.gN ?_
      refine VO.gN ?_
      refine VO.gN ?_
      refine VO.y rfl (.pT rfl rfl) ?_
      refine VO.k4 0 1 2 38 ?_
      refine VC.condT rfl ?_
      refine VC.rs ?_
      refine VO.as ?_
      refine VO.keep [102, 0] [(102, mone g1 (.cells [Value.int .i64 (d0.1), Value.int .i64 (d0.2.1), Value.int .u8 (d0.2.2.1), Value.int .i64 (d0.2.2.2.1), Value.slice p0_A4 (d0.2.2.2.2.1.length) (p0_c4), Value.int .i64 (d0.2.2.2.2.2.1), Value.int .i64 (d0.2.2.2.2.2.2.1), Value.slice p0_A7 (d0.2.2.2.2.2.2.2.length) (p0_c7)].toArray 26 (0, 0))), (0, wm W)] (by kernel_rfl) ?_
      refine VO.k4 0 1 2 38 ?_
      refine VC.ret ?_
      refine outR ?_
      refine ⟨_, _, res_run (rs := [.tmp 2]) rfl (.tmp rfl .nil), fun W_ hI => out_of (l := []) hI [] rfl rfl (mle_refl _) (fun hS_ => ?_)⟩
      dsimp only [packV]
      all_goals (first | rfl | (exact fin0_shipped11_ok))
    · -- FF
      refine VO.gy rfl ⟨_, rfl, rfl⟩ (.fa rfl tst26 rfl) ?_
      refine VO.gy rfl ⟨_, rfl, rfl⟩ (.ld1 102 rfl tk3 rfl (cellsAt_one rfl rfl)) ?_
      refine VO.gy rfl ⟨_, rfl, rfl⟩ (.lss rfl rfl) ?_
      refine VO.y rfl (.pF rfl rfl) ?_
      refine VO.mv ?_
      refine VO.dec (t := 17) rfl (fun hc5 => ?_) (fun hc5 => ?_)
      · -- FFT
        refine VO.gN ?_
        refine VO.gN ?_
        refine VO.gN ?_
        refine VO.gN ?_
        refine VO.gN ?_
        refine VO.y rfl (.pT rfl rfl) ?_
        refine VO.mv ?_
        refine VO.gN ?_
        refine VO.gN ?_
        refine VO.gN ?_
        refine VO.gN ?_
        refine VO.gN ?_
        refine VO.gN ?_
        refine VO.gN ?_
        refine VO.y rfl (.pT rfl rfl) ?_
        refine VO.mv ?_
        refine VO.gN ?_
        refine VO.gN ?_
        refine VO.gN ?_
        refine VO.gN ?_
        refine VO.y rfl (.pT rfl rfl) ?_
        refine VO.k4 0 1 2 38 ?_
        refine VC.condT rfl ?_
        refine VC.rs ?_
        refine VO.as ?_
        refine VO.keep [102, 0] [(102, mone g1 (.cells [Value.int .i64 (d0.1), Value.int .i64 (d0.2.1), Value.int .u8 (d0.2.2.1), Value.int .i64 (d0.2.2.2.1), Value.slice p0_A4 (d0.2.2.2.2.1.length) (p0_c4), Value.int .i64 (d0.2.2.2.2.2.1), Value.int .i64 (d0.2.2.2.2.2.2.1), Value.slice p0_A7 (d0.2.2.2.2.2.2.2.length) (p0_c7)].toArray 26 (0, 0))), (0, wm W)] (by kernel_rfl) ?_
        refine VO.k4 0 1 2 38 ?_
        refine VC.ret ?_
        refine outR ?_
        refine ⟨_, _, res_run (rs := [.tmp 2]) rfl (.tmp rfl .nil), fun W_ hI => out_of (l := []) hI [] rfl rfl (mle_refl _) (fun hS_ => ?_)⟩
        dsimp only [packV]
        all_goals (first | rfl | (exact fin0_shipped11_ok))
      · -- FFF
        refine VO.gy rfl ⟨_, rfl, rfl⟩ (.fa rfl tst26 rfl) ?_
        refine VO.gy rfl ⟨_, rfl, rfl⟩ (.ld1 102 rfl tk3 rfl (cellsAt_one rfl rfl)) ?_
        refine VO.gy rfl ⟨_, rfl, rfl⟩ (.fa rfl tst26 rfl) ?_
        refine VO.gy rfl ⟨_, rfl, rfl⟩ (.ld1 102 rfl tk3 rfl (cellsAt_one rfl rfl)) ?_
        refine VO.gy rfl ⟨_, rfl, rfl⟩ (.gtr rfl rfl) ?_
        refine VO.y rfl (.pF rfl rfl) ?_
        refine VO.mv ?_
        refine VO.dec (t := 24) rfl (fun hc6 => ?_) (fun hc6 => ?_)
        · -- FFFT
          refine VO.gN ?_
          refine VO.gN ?_
          refine VO.gN ?_
          refine VO.gN ?_
          refine VO.gN ?_
          refine VO.gN ?_
          refine VO.gN ?_
          refine VO.y rfl (.pT rfl rfl) ?_
          refine VO.mv ?_
          refine VO.gN ?_
          refine VO.gN ?_
          refine VO.gN ?_
          refine VO.gN ?_
          refine VO.y rfl (.pT rfl rfl) ?_
          refine VO.k4 0 1 2 38 ?_
          refine VC.condT rfl ?_
          refine VC.rs ?_
          refine VO.as ?_
          refine VO.keep [102, 0] [(102, mone g1 (.cells [Value.int .i64 (d0.1), Value.int .i64 (d0.2.1), Value.int .u8 (d0.2.2.1), Value.int .i64 (d0.2.2.2.1), Value.slice p0_A4 (d0.2.2.2.2.1.length) (p0_c4), Value.int .i64 (d0.2.2.2.2.2.1), Value.int .i64 (d0.2.2.2.2.2.2.1), Value.slice p0_A7 (d0.2.2.2.2.2.2.2.length) (p0_c7)].toArray 26 (0, 0))), (0, wm W)] (by kernel_rfl) ?_
          refine VO.k4 0 1 2 38 ?_
          refine VC.ret ?_
          refine outR ?_
          refine ⟨_, _, res_run (rs := [.tmp 2]) rfl (.tmp rfl .nil), fun W_ hI => out_of (l := []) hI [] rfl rfl (mle_refl _) (fun hS_ => ?_)⟩
          dsimp only [packV]
          all_goals (first | rfl | (exact fin0_shipped11_ok))
        · -- FFFF
          refine VO.gy rfl ⟨_, rfl, rfl⟩ (.fa rfl tst26 rfl) ?_
          refine VO.gy rfl ⟨_, rfl, rfl⟩ (.ld1 102 rfl tk3 rfl (cellsAt_one rfl rfl)) ?_
          refine VO.gy rfl ⟨_, rfl, rfl⟩ (.eql rfl rfl) ?_
          refine VO.gy rfl ⟨_, rfl, rfl⟩ (.fa rfl tst26 rfl) ?_
          refine VO.gy rfl ⟨_, rfl, rfl⟩ (.ld1 102 rfl tk3 rfl (cellsAt_one rfl rfl)) ?_
          refine VO.gy rfl ⟨_, rfl, rfl⟩ (.eql rfl rfl) ?_
          refine VO.gy rfl ⟨_, rfl, rfl⟩ (.bneq rfl rfl Try.underlying4) ?_
          refine VO.y rfl (.pF rfl rfl) ?_
          refine VO.mv ?_
          refine VO.dec (t := 33) rfl (fun hc7 => ?_) (fun hc7 => ?_)
          · -- FFFFT
            refine VO.gN ?_
            refine VO.gN ?_
            refine VO.gN ?_
            refine VO.gN ?_
            refine VO.y rfl (.pT rfl rfl) ?_
            refine VO.k4 0 1 2 38 ?_
            refine VC.condT rfl ?_
            refine VC.rs ?_
            refine VO.as ?_
            refine VO.keep [102, 0] [(102, mone g1 (.cells [Value.int .i64 (d0.1), Value.int .i64 (d0.2.1), Value.int .u8 (d0.2.2.1), Value.int .i64 (d0.2.2.2.1), Value.slice p0_A4 (d0.2.2.2.2.1.length) (p0_c4), Value.int .i64 (d0.2.2.2.2.2.1), Value.int .i64 (d0.2.2.2.2.2.2.1), Value.slice p0_A7 (d0.2.2.2.2.2.2.2.length) (p0_c7)].toArray 26 (0, 0))), (0, wm W)] (by kernel_rfl) ?_
            refine VO.k4 0 1 2 38 ?_
            refine VC.ret ?_
            refine outR ?_
            refine ⟨_, _, res_run (rs := [.tmp 2]) rfl (.tmp rfl .nil), fun W_ hI => out_of (l := []) hI [] rfl rfl (mle_refl _) (fun hS_ => ?_)⟩
            dsimp only [packV]
            all_goals (first | rfl | (exact fin0_shipped11_ok))
          · -- FFFFF
            refine VO.gy rfl ⟨_, rfl, rfl⟩ (.fa rfl tst26 rfl) ?_
            refine VO.gy rfl ⟨_, rfl, rfl⟩ (.ld1 102 rfl tk24 rfl (cellsAt_one rfl rfl)) ?_
            refine VO.gy rfl ⟨_, rfl, rfl⟩ (.lenS rfl tsl24) ?_
            refine VO.gy rfl ⟨_, rfl, rfl⟩ (.gtr rfl rfl) ?_
            refine VO.y rfl (.pF rfl rfl) ?_
            refine VO.k4 0 1 2 38 ?_
            refine VC.cond rfl (fun hc8 => ?_) (fun hc8 => ?_)
            · -- FFFFFT
              refine VC.rs ?_
              refine VO.as ?_
              refine VO.keep [102, 0] [(102, mone g1 (.cells [Value.int .i64 (d0.1), Value.int .i64 (d0.2.1), Value.int .u8 (d0.2.2.1), Value.int .i64 (d0.2.2.2.1), Value.slice p0_A4 (d0.2.2.2.2.1.length) (p0_c4), Value.int .i64 (d0.2.2.2.2.2.1), Value.int .i64 (d0.2.2.2.2.2.2.1), Value.slice p0_A7 (d0.2.2.2.2.2.2.2.length) (p0_c7)].toArray 26 (0, 0))), (0, wm W)] (by kernel_rfl) ?_
              refine VO.k4 0 1 2 38 ?_
              refine VC.ret ?_
              refine outR ?_
              refine ⟨_, _, res_run (rs := [.tmp 2]) rfl (.tmp rfl .nil), fun W_ hI => out_of (l := []) hI [] rfl rfl (mle_refl _) (fun hS_ => ?_)⟩
              dsimp only [packV]
              all_goals (first | rfl | (exact fin0_shipped11_ok))
            · -- FFFFFF
              refine VC.skip ?_
              refine outN ?_
              refine VC.seq ?_
              refine VC.rs ?_
              refine VO.as ?_
              refine VO.keep [102, 0] [(102, mone g1 (.cells [Value.int .i64 (d0.1), Value.int .i64 (d0.2.1), Value.int .u8 (d0.2.2.1), Value.int .i64 (d0.2.2.2.1), Value.slice p0_A4 (d0.2.2.2.2.1.length) (p0_c4), Value.int .i64 (d0.2.2.2.2.2.1), Value.int .i64 (d0.2.2.2.2.2.2.1), Value.slice p0_A7 (d0.2.2.2.2.2.2.2.length) (p0_c7)].toArray 26 (0, 0))), (0, wm W)] (by kernel_rfl) ?_
              refine VO.k5 0 1 2 3 38 ?_
              refine VC.block ?_
              refine VC.loop (G := Nat) (fun k => [(3, Value.int .i64 (((k : Nat) : Int))), (0, Value.agg [Value.int .i64 (d0.1), Value.int .i64 (d0.2.1), Value.int .u8 (d0.2.2.1), Value.int .i64 (d0.2.2.2.1), Value.slice p0_A4 (d0.2.2.2.2.1.length) (p0_c4), Value.int .i64 (d0.2.2.2.2.2.1), Value.int .i64 (d0.2.2.2.2.2.2.1), Value.slice p0_A7 (d0.2.2.2.2.2.2.2.length) (p0_c7)].toArray), (1, Value.pointer (some ⟨g1, 0, none⟩)), (38, Value.bool (decide (4 < ((d0.2.2.2.2.2.2.2.length : Nat) : Int))))]) (fun k => [(102, mone g1 (.cells [Value.int .i64 (d0.1), Value.int .i64 (d0.2.1), Value.int .u8 (d0.2.2.1), Value.int .i64 (d0.2.2.2.1), Value.slice p0_A4 (d0.2.2.2.2.1.length) (p0_c4), Value.int .i64 (d0.2.2.2.2.2.1), Value.int .i64 (d0.2.2.2.2.2.2.1), Value.slice p0_A7 (d0.2.2.2.2.2.2.2.length) (p0_c7)].toArray 26 (0, 0))), (0, wm W)]) (fun k => (k ≤ d0.2.2.2.2.2.2.2.length) ∧ (∀ c ∈ d0.2.2.2.2.2.2.2.take k, c.1 ≤ d0.2.1)) (fun k => d0.2.2.2.2.2.2.2.length - k) 0 (⟨by omega, by simp⟩) ⟨⟨rfl, rfl, rfl, rfl, trivial⟩, fun _ h => h.sub [102, 0]⟩ ?_
              rintro k ⟨hk, ha⟩
              refine VC.seq ?_
              refine VC.rs ?_
              refine VO.mv ?_
              refine VO.y rfl (.fa rfl tst26 rfl) ?_
              refine VO.y rfl (.ld1 102 rfl tk24 rfl (cellsAt_one rfl rfl)) ?_
              refine VO.y rfl (.lenS rfl tsl24) ?_
              refine VO.y rfl (.lss rfl rfl) ?_
              refine VO.k5 0 1 3 38 43 ?_
              refine VC.cond rfl (fun hc9 => ?_) (fun hc9 => ?_)
              · -- FFFFFFT
                refine VC.skip ?_
                refine outN ?_
                refine VC.seq ?_
                refine VC.block ?_
                refine VC.seq ?_
                refine VC.regD _ 8 [(0, true), (1, true), (2, true), (3, true), (4, true), (5, true), (6, true), (7, true)] follows (by kernel_rfl) (fun _ h => h.sub [102, 0]) ?_
                refine VD.y rfl rfl (.inl rfl) (.fa rfl tst26 rfl) ?_
                refine VD.y rfl rfl (.inl rfl) (.ld1 102 rfl tk24 rfl (cellsAt_one rfl rfl)) ?_
                refine VD.y rfl rfl (.inl rfl) (.mv rfl) ?_
                obtain ⟨x10, hx10⟩ : ∃ z_, (d0.2.2.2.2.2.2.2)[k]? = some z_ := ⟨_, List.getElem?_eq_getElem bd⟩
                obtain ⟨gg10, oo10, ec10, ea10, hce10, hre10⟩ := p0_7.elem hx10
                cases ea10
                obtain ⟨q10_A2, q10_c2, rfl, q10_0, q10_1, q10_2⟩ := open_Commit (x0 := x10.1) (x1 := x10.2.1) (x2 := x10.2.2) hre10
                simp only [inK] at q10_0
                simp only [inK] at q10_1
                have q10_r2 := Rd.room q10_2
                refine VD.y rfl rfl (.inl rfl) (.ixI k rfl rfl tsl24 rfl bd) ?_
                refine VD.y rfl rfl (.inl rfl) (.fa rfl tst43 rfl) ?_
                refine VD.y rfl rfl (.inl rfl) (.ld1 0 rfl tk3 rfl (hce10.at1 (j := 0) rfl)) ?_
                refine VD.y rfl rfl (.inl rfl) (.fa rfl tst26 rfl) ?_
                refine VD.y rfl rfl (.inl rfl) (.ld1 102 rfl tk3 rfl (cellsAt_one rfl rfl)) ?_
                refine VD.nil rfl ?_ rfl
                refine VO.y rfl (.gtr rfl rfl) ?_
                refine VO.k6 0 1 3 38 43 54 ?_
                refine outN ?_
                refine VC.cond rfl (fun hc11 => ?_) (fun hc11 => ?_)
                · -- FFFFFFTT
                  refine VC.rs ?_
                  refine VO.as ?_
                  refine VO.keep [102, 0] [(102, mone g1 (.cells [Value.int .i64 (d0.1), Value.int .i64 (d0.2.1), Value.int .u8 (d0.2.2.1), Value.int .i64 (d0.2.2.2.1), Value.slice p0_A4 (d0.2.2.2.2.1.length) (p0_c4), Value.int .i64 (d0.2.2.2.2.2.1), Value.int .i64 (d0.2.2.2.2.2.2.1), Value.slice (some ⟨gg10, oo10, none⟩) (d0.2.2.2.2.2.2.2.length) (p0_c7)].toArray 26 (0, 0))), (0, wm W)] (by kernel_rfl) ?_
                  refine VO.k7 0 1 2 3 38 43 54 ?_
                  refine VC.ret ?_
                  refine outBR ?_
                  refine outR ?_
                  refine outR ?_
                  refine outBR ?_
                  refine outR ?_
                  refine ⟨_, _, res_run (rs := [.tmp 2]) rfl (.tmp rfl .nil), fun W_ hI => out_of (l := []) hI [] rfl rfl (mle_refl _) (fun hS_ => ?_)⟩
                  dsimp only [packV]
                  all_goals (first | rfl | (exact fin0_shipped11_ok))
                · -- FFFFFFTF
                  refine VC.skip ?_
                  refine outBN ?_
                  refine outN ?_
                  refine VC.reg ?_
                  refine VO.mv ?_
                  refine VO.y rfl (.add (c := ((k + 1 : Nat) : Int)) rfl rfl (by omega) ⟨bd, bd⟩) ?_
                  refine VO.as ?_
                  refine VO.keep [102, 0] [(102, mone g1 (.cells [Value.int .i64 (d0.1), Value.int .i64 (d0.2.1), Value.int .u8 (d0.2.2.1), Value.int .i64 (d0.2.2.2.1), Value.slice p0_A4 (d0.2.2.2.2.1.length) (p0_c4), Value.int .i64 (d0.2.2.2.2.2.1), Value.int .i64 (d0.2.2.2.2.2.2.1), Value.slice (some ⟨gg10, oo10, none⟩) (d0.2.2.2.2.2.2.2.length) (p0_c7)].toArray 26 (0, 0))), (0, wm W)] (by kernel_rfl) ?_
                  refine VO.k6 0 1 3 38 43 54 ?_
                  exact outN ⟨k + 1, ⟨by omega, by exact all_next ha ‹d0.2.2.2.2.2.2.2[k]? = some _› (by omega)⟩, bd, ⟨⟨rfl, rfl, rfl, rfl, trivial⟩, fun _ h => Inv.sub h [102, 0]⟩⟩
              · -- FFFFFFF
                refine VC.exit ?_
                refine outE ?_
                refine outE ?_
                refine outBB ?_
                refine outN ?_
                refine VC.rs ?_
                refine VO.y rfl (.fa rfl tst26 rfl) ?_
                refine VO.y rfl (.ld1 102 rfl tk3 rfl (cellsAt_one rfl rfl)) ?_
                refine VO.y rfl (.fa rfl tst26 rfl) ?_
                refine VO.y rfl (.ld1 102 rfl tk3 rfl (cellsAt_one rfl rfl)) ?_
                refine VO.y rfl (.sub rfl rfl rfl ⟨bd, bd⟩) ?_
                refine VO.y rfl (.fa rfl tst26 rfl) ?_
                refine VO.y rfl (.ld1 102 rfl tk24 rfl (cellsAt_one rfl rfl)) ?_
                refine VO.callN 112 rfl fnOk73 rfl (fun W hW => c4Follows_ok W d0.2.2.2.2.2.2.1 bdk (d0.2.2.2.2.2.1 - 1) bdk (Rd.mono p0_7 (hW.at (i := 0) rfl))) (fun v12 m12 hv12 => ?_)
                obtain ⟨s12_0, rfl, f12_0⟩ := hv12
                obtain ⟨rfl, q12_0_0, q12_0_1⟩ := open_Fault (x0 := (cFollows d0.2.2.2.2.2.2.1 (d0.2.2.2.2.2.1 - 1) d0.2.2.2.2.2.2.2).1) (x1 := (cFollows d0.2.2.2.2.2.2.1 (d0.2.2.2.2.2.1 - 1) d0.2.2.2.2.2.2.2).2) (f12_0.rd (mle_refl _))
                simp only [inK] at q12_0_0
                simp only [inK] at q12_0_1
                refine VO.y rfl (.bst (cs := [Value.int .i64 (0), Value.int .i64 (0)]) rfl tst92 tz92 rfl) ?_
                refine VO.y rfl (.steql (p := ((cFollows d0.2.2.2.2.2.2.1 (d0.2.2.2.2.2.1 - 1) d0.2.2.2.2.2.2.2).1) = 0 ∧ ((cFollows d0.2.2.2.2.2.2.1 (d0.2.2.2.2.2.1 - 1) d0.2.2.2.2.2.2.2).2) = 0) rfl rfl (teq92 ((cFollows d0.2.2.2.2.2.2.1 (d0.2.2.2.2.2.1 - 1) d0.2.2.2.2.2.2.2).1) ((cFollows d0.2.2.2.2.2.2.1 (d0.2.2.2.2.2.1 - 1) d0.2.2.2.2.2.2.2).2)) (teq92 0 0) (by simp [ceq, ba_toList])) ?_
                refine VO.mv ?_
                refine VO.dec (t := 65) rfl (fun hc13 => ?_) (fun hc13 => ?_)
                · -- FFFFFFFT
                  refine VO.gy rfl ⟨_, rfl, rfl⟩ (.fa rfl tst26 rfl) ?_
                  refine VO.gy rfl ⟨_, rfl, rfl⟩ (.ld1 102 rfl tk22 rfl (cellsAt_one rfl rfl)) ?_
                  refine VO.gy rfl ⟨_, rfl, rfl⟩ (.fa rfl tst26 rfl) ?_
                  refine VO.gy rfl ⟨_, rfl, rfl⟩ (.ld1 102 rfl tk3 rfl (cellsAt_one rfl rfl)) ?_
                  refine VO.gy rfl ⟨_, rfl, rfl⟩ (.fa rfl tst26 rfl) ?_
                  refine VO.gy rfl ⟨_, rfl, rfl⟩ (.ld1 102 rfl tk23 rfl (cellsAt_one rfl rfl)) ?_
                  refine VO.gy rfl ⟨_, rfl, rfl⟩ (.bst (cs := [Value.int .i64 (0), Value.int .i64 (0), Value.int .u8 (d0.2.2.1), Value.int .i64 (d0.2.2.2.1), Value.slice p0_A4 (d0.2.2.2.2.1.length) (p0_c4), Value.int .i64 (0), Value.int .i64 (0), Value.slice none (0) (0)]) rfl tst26 tz26 rfl) ?_
                  refine VO.gcallN 114 rfl ⟨_, rfl, rfl⟩ fnOk42 rfl (fun W hW => plain11_ok W (mk_Message (m := wm W) 0 0 d0.2.2.1 d0.2.2.2.1 d0.2.2.2.2.1 0 0 [] bdk bdk bdk bdk (Rd.mono p0_4 (hW.at (i := 0) rfl)) bdk bdk (Rd.nil _ _ none 0 (Nat.zero_le _)))) (fun v14 m14 hv14 => ?_)
                  try dsimp only at hv14
                  subst hv14
                  refine VO.y rfl (.pT rfl rfl) ?_
                  refine VO.as ?_
                  refine VO.k6 0 1 2 3 38 43 ?_
                  refine VC.ret ?_
                  refine ⟨_, _, res_run (rs := [.tmp 2]) rfl (.tmp rfl .nil), fun W_ hI => out_of (l := []) hI [] rfl rfl (mle_refl _) (fun hS_ => ?_)⟩
                  dsimp only [packV]
                  all_goals (first | rfl | (exact fin0_shipped11_ok))
                · -- FFFFFFFF
                  refine VO.gN ?_
                  refine VO.gN ?_
                  refine VO.gN ?_
                  refine VO.gN ?_
                  refine VO.gN ?_
                  refine VO.gN ?_
                  refine VO.gN ?_
                  refine VO.gN ?_
                  refine VO.y rfl (.pF rfl rfl) ?_
                  refine VO.as ?_
                  refine VO.k6 0 1 2 3 38 43 ?_
                  refine VC.ret ?_
                  refine ⟨_, _, res_run (rs := [.tmp 2]) rfl (.tmp rfl .nil), fun W_ hI => out_of (l := []) hI [] rfl rfl (mle_refl _) (fun hS_ => ?_)⟩
                  dsimp only [packV]
                  all_goals (first | rfl | (exact fin0_shipped11_ok))
theorem fin0_check11_ok {P : Prop} (h : P := by congr 1; first | exact (lCheck_good ⟨by omega, .inl ⟨by omega, Decidable.not_not.1 ‹¬ ¬ helloM d0›⟩⟩).symm | exact (lCheck_good ⟨by omega, .inr (.inl ⟨by omega, Decidable.not_not.1 ‹¬ ¬ shipM d0›⟩)⟩).symm | exact (lCheck_good ⟨by omega, .inr (.inr ⟨by omega, (ack_iff (m := d0) ⟨by omega, by omega⟩).1 (Decidable.not_not.1 ‹¬ ¬ bareM _›)⟩)⟩).symm | exact (lCheck_bad (by rintro ⟨e0, e | e | e⟩ <;> first | omega | exact absurd e.2 (by assumption) | exact absurd ((ack_iff e.2.1).2 e.2) (by assumption) | (unfold ackM at e; omega))).symm) : P := h
theorem check11_ok (W : World) {v0 : List Value} {d0 : DMessage} (h0 : Rd TMessage (wm W) v0 d0) : CallR Try.prog 14 [.agg v0.toArray] W (mnil) (fun v m' => v = .int .i64 (lCheck d0)) := by
  obtain ⟨p0_A4, p0_c4, p0_A7, p0_c7, rfl, p0_0, p0_1, p0_2, p0_3, p0_4, p0_5, p0_6, p0_7⟩ := open_Message (x0 := d0.1) (x1 := d0.2.1) (x2 := d0.2.2.1) (x3 := d0.2.2.2.1) (x4 := d0.2.2.2.2.1) (x5 := d0.2.2.2.2.2.1) (x6 := d0.2.2.2.2.2.2.1) (x7 := d0.2.2.2.2.2.2.2) h0
  simp only [inK] at p0_0
  simp only [inK] at p0_1
  simp only [inK] at p0_2
  simp only [inK] at p0_3
  have p0_r4 := Rd.room p0_4
  simp only [inK] at p0_5
  simp only [inK] at p0_6
  have p0_r7 := Rd.room p0_7
  refine CallR.ofA (n := 50) Try.func14 rfl rfl rfl ?_
  refine VC.rs ?_
  refine VO.box (cs := [Value.int .i64 (d0.1), Value.int .i64 (d0.2.1), Value.int .u8 (d0.2.2.1), Value.int .i64 (d0.2.2.2.1), Value.slice p0_A4 (d0.2.2.2.2.1.length) (p0_c4), Value.int .i64 (d0.2.2.2.2.2.1), Value.int .i64 (d0.2.2.2.2.2.2.1), Value.slice p0_A7 (d0.2.2.2.2.2.2.2.length) (p0_c7)]) 102 rfl rfl rfl (fun g1 => ?_)
  refine VO.as ?_
  refine VO.k3 0 1 2 ?_
  refine VC.rs ?_
  refine VO.as ?_
  refine VO.k4 0 1 2 3 ?_
  refine VC.seq ?_
  refine VC.rs ?_
  refine VO.y rfl (.fa rfl tst26 rfl) ?_
  refine VO.y rfl (.ld1 102 rfl tk3 rfl (cellsAt_one rfl rfl)) ?_
  refine VO.keep [102, 0] [(102, mone g1 (.cells [Value.int .i64 (d0.1), Value.int .i64 (d0.2.1), Value.int .u8 (d0.2.2.1), Value.int .i64 (d0.2.2.2.1), Value.slice p0_A4 (d0.2.2.2.2.1.length) (p0_c4), Value.int .i64 (d0.2.2.2.2.2.1), Value.int .i64 (d0.2.2.2.2.2.2.1), Value.slice p0_A7 (d0.2.2.2.2.2.2.2.length) (p0_c7)].toArray 26 (0, 0))), (0, wm W)] (by kernel_rfl) ?_
  refine VO.k5 0 1 2 3 5 ?_
  refine VC.block ?_
  refine VC.rs ?_
  refine VO.y rfl (.eql rfl rfl) ?_
  refine VO.as ?_
  refine VO.k6 0 1 2 3 5 6 ?_
  refine VC.cond rfl (fun hc3 => ?_) (fun hc3 => ?_)
  · -- T
    refine VC.reg ?_
    refine VO.y rfl (.ldA 102 rfl tk26 rfl (cellsAt_one rfl rfl)) ?_
    refine VO.callN 104 rfl fnOk40 rfl (fun W hW => hello11_ok W (Rd.mono h0 (hW.at (i := 0) rfl))) (fun v4 m4 hv4 => ?_)
    subst hv4
    refine VO.as ?_
    refine VO.k6 0 1 2 3 5 6 ?_
    refine outBN ?_
    refine outN ?_
    refine VC.seq ?_
    refine VC.rs ?_
    refine VO.mv ?_
    refine VO.y rfl (.notD rfl) ?_
    refine VO.mv ?_
    refine VO.dec (t := 40) rfl (fun hc5 => ?_) (fun hc5 => ?_)
    · -- TT
      refine VO.gN ?_
      refine VO.gN ?_
      refine VO.gN ?_
      refine VO.y rfl (.pT rfl rfl) ?_
      refine VO.mv ?_
      refine VO.gN ?_
      refine VO.gN ?_
      refine VO.gN ?_
      refine VO.y rfl (.pT rfl rfl) ?_
      refine VO.keep [102, 0] [(102, mone g1 (.cells [Value.int .i64 (d0.1), Value.int .i64 (d0.2.1), Value.int .u8 (d0.2.2.1), Value.int .i64 (d0.2.2.2.1), Value.slice p0_A4 (d0.2.2.2.2.1.length) (p0_c4), Value.int .i64 (d0.2.2.2.2.2.1), Value.int .i64 (d0.2.2.2.2.2.2.1), Value.slice p0_A7 (d0.2.2.2.2.2.2.2.length) (p0_c7)].toArray 26 (0, 0))), (0, wm W)] (by kernel_rfl) ?_
      refine VO.k7 0 1 2 3 5 6 49 ?_
      refine VC.condT rfl ?_
      refine VC.rs ?_
      refine VO.as ?_
      refine VO.k7 0 1 2 3 5 6 49 ?_
      refine VC.ret ?_
      refine outR ?_
      refine ⟨_, _, res_run (rs := [.tmp 2]) rfl (.tmp rfl .nil), fun W_ hI => out_of (l := []) hI [] rfl rfl (mle_refl _) (fun hS_ => ?_)⟩
      dsimp only [packV]
      all_goals (first | rfl | (exact fin0_check11_ok))
    · -- TF
      refine VO.gy rfl ⟨_, rfl, rfl⟩ (.fa rfl tst26 rfl) ?_
      refine VO.gy rfl ⟨_, rfl, rfl⟩ (.ld1 102 rfl tk3 rfl (cellsAt_one rfl rfl)) ?_
      refine VO.gy rfl ⟨_, rfl, rfl⟩ (.lss rfl rfl) ?_
      refine VO.y rfl (.pF rfl rfl) ?_
      refine VO.mv ?_
      refine VO.dec (t := 45) rfl (fun hc6 => ?_) (fun hc6 => ?_)
      · -- TFT
        refine VO.gN ?_
        refine VO.gN ?_
        refine VO.gN ?_
        refine VO.y rfl (.pT rfl rfl) ?_
        refine VO.keep [102, 0] [(102, mone g1 (.cells [Value.int .i64 (d0.1), Value.int .i64 (d0.2.1), Value.int .u8 (d0.2.2.1), Value.int .i64 (d0.2.2.2.1), Value.slice p0_A4 (d0.2.2.2.2.1.length) (p0_c4), Value.int .i64 (d0.2.2.2.2.2.1), Value.int .i64 (d0.2.2.2.2.2.2.1), Value.slice p0_A7 (d0.2.2.2.2.2.2.2.length) (p0_c7)].toArray 26 (0, 0))), (0, wm W)] (by kernel_rfl) ?_
        refine VO.k7 0 1 2 3 5 6 49 ?_
        refine VC.condT rfl ?_
        refine VC.rs ?_
        refine VO.as ?_
        refine VO.k7 0 1 2 3 5 6 49 ?_
        refine VC.ret ?_
        refine outR ?_
        refine ⟨_, _, res_run (rs := [.tmp 2]) rfl (.tmp rfl .nil), fun W_ hI => out_of (l := []) hI [] rfl rfl (mle_refl _) (fun hS_ => ?_)⟩
        dsimp only [packV]
        all_goals (first | rfl | (exact fin0_check11_ok))
      · -- TFF
        refine VO.gy rfl ⟨_, rfl, rfl⟩ (.fa rfl tst26 rfl) ?_
        refine VO.gy rfl ⟨_, rfl, rfl⟩ (.ld1 102 rfl tk3 rfl (cellsAt_one rfl rfl)) ?_
        refine VO.gy rfl ⟨_, rfl, rfl⟩ (.gtr rfl rfl) ?_
        refine VO.y rfl (.pF rfl rfl) ?_
        refine VO.keep [102, 0] [(102, mone g1 (.cells [Value.int .i64 (d0.1), Value.int .i64 (d0.2.1), Value.int .u8 (d0.2.2.1), Value.int .i64 (d0.2.2.2.1), Value.slice p0_A4 (d0.2.2.2.2.1.length) (p0_c4), Value.int .i64 (d0.2.2.2.2.2.1), Value.int .i64 (d0.2.2.2.2.2.2.1), Value.slice p0_A7 (d0.2.2.2.2.2.2.2.length) (p0_c7)].toArray 26 (0, 0))), (0, wm W)] (by kernel_rfl) ?_
        refine VO.k7 0 1 2 3 5 6 49 ?_
        refine VC.cond rfl (fun hc7 => ?_) (fun hc7 => ?_)
        · -- TFFT
          refine VC.rs ?_
          refine VO.as ?_
          refine VO.k7 0 1 2 3 5 6 49 ?_
          refine VC.ret ?_
          refine outR ?_
          refine ⟨_, _, res_run (rs := [.tmp 2]) rfl (.tmp rfl .nil), fun W_ hI => out_of (l := []) hI [] rfl rfl (mle_refl _) (fun hS_ => ?_)⟩
          dsimp only [packV]
          all_goals (first | rfl | (exact fin0_check11_ok))
        · -- TFFF
          refine VC.skip ?_
          refine outN ?_
          refine VC.rs ?_
          refine VO.as ?_
          refine VO.k7 0 1 2 3 5 6 49 ?_
          refine VC.ret ?_
          refine ⟨_, _, res_run (rs := [.tmp 2]) rfl (.tmp rfl .nil), fun W_ hI => out_of (l := []) hI [] rfl rfl (mle_refl _) (fun hS_ => ?_)⟩
          dsimp only [packV]
          all_goals (first | rfl | (exact fin0_check11_ok))
  · -- F
    refine VC.rs ?_
    refine VO.y rfl (.eql rfl rfl) ?_
    refine VO.as ?_
    refine VO.k7 0 1 2 3 5 6 10 ?_
    refine VC.cond rfl (fun hc8 => ?_) (fun hc8 => ?_)
    · -- FT
      refine VC.reg ?_
      refine VO.y rfl (.ldA 102 rfl tk26 rfl (cellsAt_one rfl rfl)) ?_
      refine VO.callN 109 rfl fnOk41 rfl (fun W hW => shipped11_ok W (Rd.mono h0 (hW.at (i := 0) rfl))) (fun v9 m9 hv9 => ?_)
      subst hv9
      refine VO.as ?_
      refine VO.keep [102, 0] [(102, mone g1 (.cells [Value.int .i64 (d0.1), Value.int .i64 (d0.2.1), Value.int .u8 (d0.2.2.1), Value.int .i64 (d0.2.2.2.1), Value.slice p0_A4 (d0.2.2.2.2.1.length) (p0_c4), Value.int .i64 (d0.2.2.2.2.2.1), Value.int .i64 (d0.2.2.2.2.2.2.1), Value.slice p0_A7 (d0.2.2.2.2.2.2.2.length) (p0_c7)].toArray 26 (0, 0))), (0, wm W)] (by kernel_rfl) ?_
      refine VO.k7 0 1 2 3 5 6 10 ?_
      refine outBN ?_
      refine outN ?_
      refine VC.seq ?_
      refine VC.rs ?_
      refine VO.mv ?_
      refine VO.y rfl (.notD rfl) ?_
      refine VO.mv ?_
      refine VO.dec (t := 40) rfl (fun hc10 => ?_) (fun hc10 => ?_)
      · -- FTT
        refine VO.gN ?_
        refine VO.gN ?_
        refine VO.gN ?_
        refine VO.y rfl (.pT rfl rfl) ?_
        refine VO.mv ?_
        refine VO.gN ?_
        refine VO.gN ?_
        refine VO.gN ?_
        refine VO.y rfl (.pT rfl rfl) ?_
        refine VO.k8 0 1 2 3 5 6 10 49 ?_
        refine VC.condT rfl ?_
        refine VC.rs ?_
        refine VO.as ?_
        refine VO.k8 0 1 2 3 5 6 10 49 ?_
        refine VC.ret ?_
        refine outR ?_
        refine ⟨_, _, res_run (rs := [.tmp 2]) rfl (.tmp rfl .nil), fun W_ hI => out_of (l := []) hI [] rfl rfl (mle_refl _) (fun hS_ => ?_)⟩
        dsimp only [packV]
        all_goals (first | rfl | (exact fin0_check11_ok))
      · -- FTF
        refine VO.gy rfl ⟨_, rfl, rfl⟩ (.fa rfl tst26 rfl) ?_
        refine VO.gy rfl ⟨_, rfl, rfl⟩ (.ld1 102 rfl tk3 rfl (cellsAt_one rfl rfl)) ?_
        refine VO.gy rfl ⟨_, rfl, rfl⟩ (.lss rfl rfl) ?_
        refine VO.y rfl (.pF rfl rfl) ?_
        refine VO.mv ?_
        refine VO.dec (t := 45) rfl (fun hc11 => ?_) (fun hc11 => ?_)
        · -- FTFT
          refine VO.gN ?_
          refine VO.gN ?_
          refine VO.gN ?_
          refine VO.y rfl (.pT rfl rfl) ?_
          refine VO.k8 0 1 2 3 5 6 10 49 ?_
          refine VC.condT rfl ?_
          refine VC.rs ?_
          refine VO.as ?_
          refine VO.k8 0 1 2 3 5 6 10 49 ?_
          refine VC.ret ?_
          refine outR ?_
          refine ⟨_, _, res_run (rs := [.tmp 2]) rfl (.tmp rfl .nil), fun W_ hI => out_of (l := []) hI [] rfl rfl (mle_refl _) (fun hS_ => ?_)⟩
          dsimp only [packV]
          all_goals (first | rfl | (exact fin0_check11_ok))
        · -- FTFF
          refine VO.gy rfl ⟨_, rfl, rfl⟩ (.fa rfl tst26 rfl) ?_
          refine VO.gy rfl ⟨_, rfl, rfl⟩ (.ld1 102 rfl tk3 rfl (cellsAt_one rfl rfl)) ?_
          refine VO.gy rfl ⟨_, rfl, rfl⟩ (.gtr rfl rfl) ?_
          refine VO.y rfl (.pF rfl rfl) ?_
          refine VO.k8 0 1 2 3 5 6 10 49 ?_
          refine VC.cond rfl (fun hc12 => ?_) (fun hc12 => ?_)
          · -- FTFFT
            refine VC.rs ?_
            refine VO.as ?_
            refine VO.k8 0 1 2 3 5 6 10 49 ?_
            refine VC.ret ?_
            refine outR ?_
            refine ⟨_, _, res_run (rs := [.tmp 2]) rfl (.tmp rfl .nil), fun W_ hI => out_of (l := []) hI [] rfl rfl (mle_refl _) (fun hS_ => ?_)⟩
            dsimp only [packV]
            all_goals (first | rfl | (exact fin0_check11_ok))
          · -- FTFFF
            refine VC.skip ?_
            refine outN ?_
            refine VC.rs ?_
            refine VO.as ?_
            refine VO.k8 0 1 2 3 5 6 10 49 ?_
            refine VC.ret ?_
            refine ⟨_, _, res_run (rs := [.tmp 2]) rfl (.tmp rfl .nil), fun W_ hI => out_of (l := []) hI [] rfl rfl (mle_refl _) (fun hS_ => ?_)⟩
            dsimp only [packV]
            all_goals (first | rfl | (exact fin0_check11_ok))
    · -- FF
      refine VC.rs ?_
      refine VO.y rfl (.eql rfl rfl) ?_
      refine VO.as ?_
      refine VO.keep [102, 0] [(102, mone g1 (.cells [Value.int .i64 (d0.1), Value.int .i64 (d0.2.1), Value.int .u8 (d0.2.2.1), Value.int .i64 (d0.2.2.2.1), Value.slice p0_A4 (d0.2.2.2.2.1.length) (p0_c4), Value.int .i64 (d0.2.2.2.2.2.1), Value.int .i64 (d0.2.2.2.2.2.2.1), Value.slice p0_A7 (d0.2.2.2.2.2.2.2.length) (p0_c7)].toArray 26 (0, 0))), (0, wm W)] (by kernel_rfl) ?_
      refine VO.k8 0 1 2 3 5 6 10 14 ?_
      refine VC.cond rfl (fun hc13 => ?_) (fun hc13 => ?_)
      · -- FFT
        refine VC.reg ?_
        refine VO.y rfl (.fa rfl tst26 rfl) ?_
        refine VO.y rfl (.ld1 102 rfl tk3 rfl (cellsAt_one rfl rfl)) ?_
        refine VO.y rfl (.geq rfl rfl) ?_
        refine VO.mv ?_
        refine VO.dec (t := 19) rfl (fun hc14 => ?_) (fun hc14 => ?_)
        · -- FFTT
          refine VO.gy rfl ⟨_, rfl, rfl⟩ (.fa rfl tst26 rfl) ?_
          refine VO.gy rfl ⟨_, rfl, rfl⟩ (.ld1 102 rfl tk3 rfl (cellsAt_one rfl rfl)) ?_
          refine VO.gy rfl ⟨_, rfl, rfl⟩ (.leq rfl rfl) ?_
          refine VO.y rfl (.pT rfl rfl) ?_
          refine VO.mv ?_
          refine VO.dec (t := 24) rfl (fun hc15 => ?_) (fun hc15 => ?_)
          · -- FFTTT
            refine VO.gy rfl ⟨_, rfl, rfl⟩ (.fa rfl tst26 rfl) ?_
            refine VO.gy rfl ⟨_, rfl, rfl⟩ (.ld1 102 rfl tk22 rfl (cellsAt_one rfl rfl)) ?_
            refine VO.gy rfl ⟨_, rfl, rfl⟩ (.fa rfl tst26 rfl) ?_
            refine VO.gy rfl ⟨_, rfl, rfl⟩ (.ld1 102 rfl tk23 rfl (cellsAt_one rfl rfl)) ?_
            refine VO.gy rfl ⟨_, rfl, rfl⟩ (.fa rfl tst26 rfl) ?_
            refine VO.gy rfl ⟨_, rfl, rfl⟩ (.ld1 102 rfl tk3 rfl (cellsAt_one rfl rfl)) ?_
            refine VO.gy rfl ⟨_, rfl, rfl⟩ (.fa rfl tst26 rfl) ?_
            refine VO.gy rfl ⟨_, rfl, rfl⟩ (.ld1 102 rfl tk3 rfl (cellsAt_one rfl rfl)) ?_
            refine VO.gy rfl ⟨_, rfl, rfl⟩ (.fa rfl tst26 rfl) ?_
            refine VO.gy rfl ⟨_, rfl, rfl⟩ (.ld1 102 rfl tk24 rfl (cellsAt_one rfl rfl)) ?_
            refine VO.gy rfl ⟨_, rfl, rfl⟩ (.bst (cs := [Value.int .i64 (0), Value.int .i64 (0), Value.int .u8 (d0.2.2.1), Value.int .i64 (0), Value.slice p0_A4 (d0.2.2.2.2.1.length) (p0_c4), Value.int .i64 (d0.2.2.2.2.2.1), Value.int .i64 (d0.2.2.2.2.2.2.1), Value.slice p0_A7 (d0.2.2.2.2.2.2.2.length) (p0_c7)]) rfl tst26 tz26 rfl) ?_
            refine VO.gcallN 116 rfl ⟨_, rfl, rfl⟩ fnOk42 rfl (fun W hW => plain11_ok W (mk_Message (m := wm W) 0 0 d0.2.2.1 0 d0.2.2.2.2.1 d0.2.2.2.2.2.1 d0.2.2.2.2.2.2.1 d0.2.2.2.2.2.2.2 bdk bdk bdk bdk (Rd.mono p0_4 (hW.at (i := 0) rfl)) bdk bdk (Rd.mono p0_7 (hW.at (i := 0) rfl)))) (fun v16 m16 hv16 => ?_)
            try dsimp only at hv16
            subst hv16
            refine VO.y rfl (.pT rfl rfl) ?_
            refine VO.as ?_
            refine VO.k8 0 1 2 3 5 6 10 14 ?_
            refine outBN ?_
            refine outN ?_
            refine VC.seq ?_
            refine VC.rs ?_
            refine VO.mv ?_
            refine VO.y rfl (.notD rfl) ?_
            refine VO.mv ?_
            refine VO.dec (t := 40) rfl (fun hc17 => ?_) (fun hc17 => ?_)
            · -- FFTTTT
              refine VO.gN ?_
              refine VO.gN ?_
              refine VO.gN ?_
              refine VO.y rfl (.pT rfl rfl) ?_
              refine VO.mv ?_
              refine VO.gN ?_
              refine VO.gN ?_
              refine VO.gN ?_
              refine VO.y rfl (.pT rfl rfl) ?_
              refine VO.k9 0 1 2 3 5 6 10 14 49 ?_
              refine VC.condT rfl ?_
              refine VC.rs ?_
              refine VO.as ?_
              refine VO.keep [102, 0] [(102, mone g1 (.cells [Value.int .i64 (d0.1), Value.int .i64 (d0.2.1), Value.int .u8 (d0.2.2.1), Value.int .i64 (d0.2.2.2.1), Value.slice p0_A4 (d0.2.2.2.2.1.length) (p0_c4), Value.int .i64 (d0.2.2.2.2.2.1), Value.int .i64 (d0.2.2.2.2.2.2.1), Value.slice p0_A7 (d0.2.2.2.2.2.2.2.length) (p0_c7)].toArray 26 (0, 0))), (0, wm W)] (by kernel_rfl) ?_
              refine VO.k9 0 1 2 3 5 6 10 14 49 ?_
              refine VC.ret ?_
              refine outR ?_
              refine ⟨_, _, res_run (rs := [.tmp 2]) rfl (.tmp rfl .nil), fun W_ hI => out_of (l := []) hI [] rfl rfl (mle_refl _) (fun hS_ => ?_)⟩
              dsimp only [packV]
              all_goals (first | rfl | (exact fin0_check11_ok))
            · -- FFTTTF
              refine VO.gy rfl ⟨_, rfl, rfl⟩ (.fa rfl tst26 rfl) ?_
              refine VO.gy rfl ⟨_, rfl, rfl⟩ (.ld1 102 rfl tk3 rfl (cellsAt_one rfl rfl)) ?_
              refine VO.gy rfl ⟨_, rfl, rfl⟩ (.lss rfl rfl) ?_
              refine VO.y rfl (.pF rfl rfl) ?_
              refine VO.mv ?_
              refine VO.dec (t := 45) rfl (fun hc18 => ?_) (fun hc18 => ?_)
              · -- FFTTTFT
                refine VO.gN ?_
                refine VO.gN ?_
                refine VO.gN ?_
                refine VO.y rfl (.pT rfl rfl) ?_
                refine VO.k9 0 1 2 3 5 6 10 14 49 ?_
                refine VC.condT rfl ?_
                refine VC.rs ?_
                refine VO.as ?_
                refine VO.keep [102, 0] [(102, mone g1 (.cells [Value.int .i64 (d0.1), Value.int .i64 (d0.2.1), Value.int .u8 (d0.2.2.1), Value.int .i64 (d0.2.2.2.1), Value.slice p0_A4 (d0.2.2.2.2.1.length) (p0_c4), Value.int .i64 (d0.2.2.2.2.2.1), Value.int .i64 (d0.2.2.2.2.2.2.1), Value.slice p0_A7 (d0.2.2.2.2.2.2.2.length) (p0_c7)].toArray 26 (0, 0))), (0, wm W)] (by kernel_rfl) ?_
                refine VO.k9 0 1 2 3 5 6 10 14 49 ?_
                refine VC.ret ?_
                refine outR ?_
                refine ⟨_, _, res_run (rs := [.tmp 2]) rfl (.tmp rfl .nil), fun W_ hI => out_of (l := []) hI [] rfl rfl (mle_refl _) (fun hS_ => ?_)⟩
                dsimp only [packV]
                all_goals (first | rfl | (exact fin0_check11_ok))
              · -- FFTTTFF
                refine VO.gy rfl ⟨_, rfl, rfl⟩ (.fa rfl tst26 rfl) ?_
                refine VO.gy rfl ⟨_, rfl, rfl⟩ (.ld1 102 rfl tk3 rfl (cellsAt_one rfl rfl)) ?_
                refine VO.gy rfl ⟨_, rfl, rfl⟩ (.gtr rfl rfl) ?_
                refine VO.y rfl (.pF rfl rfl) ?_
                refine VO.k9 0 1 2 3 5 6 10 14 49 ?_
                refine VC.cond rfl (fun hc19 => ?_) (fun hc19 => ?_)
                · -- FFTTTFFT
                  refine VC.rs ?_
                  refine VO.as ?_
                  refine VO.keep [102, 0] [(102, mone g1 (.cells [Value.int .i64 (d0.1), Value.int .i64 (d0.2.1), Value.int .u8 (d0.2.2.1), Value.int .i64 (d0.2.2.2.1), Value.slice p0_A4 (d0.2.2.2.2.1.length) (p0_c4), Value.int .i64 (d0.2.2.2.2.2.1), Value.int .i64 (d0.2.2.2.2.2.2.1), Value.slice p0_A7 (d0.2.2.2.2.2.2.2.length) (p0_c7)].toArray 26 (0, 0))), (0, wm W)] (by kernel_rfl) ?_
                  refine VO.k9 0 1 2 3 5 6 10 14 49 ?_
                  refine VC.ret ?_
                  refine outR ?_
                  refine ⟨_, _, res_run (rs := [.tmp 2]) rfl (.tmp rfl .nil), fun W_ hI => out_of (l := []) hI [] rfl rfl (mle_refl _) (fun hS_ => ?_)⟩
                  dsimp only [packV]
                  all_goals (first | rfl | (exact fin0_check11_ok))
                · -- FFTTTFFF
                  refine VC.skip ?_
                  refine outN ?_
                  refine VC.rs ?_
                  refine VO.as ?_
                  refine VO.keep [102, 0] [(102, mone g1 (.cells [Value.int .i64 (d0.1), Value.int .i64 (d0.2.1), Value.int .u8 (d0.2.2.1), Value.int .i64 (d0.2.2.2.1), Value.slice p0_A4 (d0.2.2.2.2.1.length) (p0_c4), Value.int .i64 (d0.2.2.2.2.2.1), Value.int .i64 (d0.2.2.2.2.2.2.1), Value.slice p0_A7 (d0.2.2.2.2.2.2.2.length) (p0_c7)].toArray 26 (0, 0))), (0, wm W)] (by kernel_rfl) ?_
                  refine VO.k9 0 1 2 3 5 6 10 14 49 ?_
                  refine VC.ret ?_
                  refine ⟨_, _, res_run (rs := [.tmp 2]) rfl (.tmp rfl .nil), fun W_ hI => out_of (l := []) hI [] rfl rfl (mle_refl _) (fun hS_ => ?_)⟩
                  dsimp only [packV]
                  all_goals (first | rfl | (exact fin0_check11_ok))
          · -- FFTTF
            refine VO.gN ?_
            refine VO.gN ?_
            refine VO.gN ?_
            refine VO.gN ?_
            refine VO.gN ?_
            refine VO.gN ?_
            refine VO.gN ?_
            refine VO.gN ?_
            refine VO.gN ?_
            refine VO.gN ?_
            refine VO.gN ?_
            refine VO.gN ?_
            refine VO.y rfl (.pF rfl rfl) ?_
            refine VO.as ?_
            refine VO.k8 0 1 2 3 5 6 10 14 ?_
            refine outBN ?_
            refine outN ?_
            refine VC.seq ?_
            refine VC.rs ?_
            refine VO.mv ?_
            refine VO.y rfl (.not rfl) ?_
            refine VO.mv ?_
            refine VO.gN ?_
            refine VO.gN ?_
            refine VO.gN ?_
            refine VO.y rfl (.pT rfl rfl) ?_
            refine VO.mv ?_
            refine VO.gN ?_
            refine VO.gN ?_
            refine VO.gN ?_
            refine VO.y rfl (.pT rfl rfl) ?_
            refine VO.k9 0 1 2 3 5 6 10 14 49 ?_
            refine VC.condT rfl ?_
            refine VC.rs ?_
            refine VO.as ?_
            refine VO.keep [102, 0] [(102, mone g1 (.cells [Value.int .i64 (d0.1), Value.int .i64 (d0.2.1), Value.int .u8 (d0.2.2.1), Value.int .i64 (d0.2.2.2.1), Value.slice p0_A4 (d0.2.2.2.2.1.length) (p0_c4), Value.int .i64 (d0.2.2.2.2.2.1), Value.int .i64 (d0.2.2.2.2.2.2.1), Value.slice p0_A7 (d0.2.2.2.2.2.2.2.length) (p0_c7)].toArray 26 (0, 0))), (0, wm W)] (by kernel_rfl) ?_
            refine VO.k9 0 1 2 3 5 6 10 14 49 ?_
            refine VC.ret ?_
            refine outR ?_
            refine ⟨_, _, res_run (rs := [.tmp 2]) rfl (.tmp rfl .nil), fun W_ hI => out_of (l := []) hI [] rfl rfl (mle_refl _) (fun hS_ => ?_)⟩
            dsimp only [packV]
            all_goals (first | rfl | (exact fin0_check11_ok))
        · -- FFTF
          refine VO.gN ?_
          refine VO.gN ?_
          refine VO.gN ?_
          refine VO.y rfl (.pF rfl rfl) ?_
          refine VO.mv ?_
          refine VO.gN ?_
          refine VO.gN ?_
          refine VO.gN ?_
          refine VO.gN ?_
          refine VO.gN ?_
          refine VO.gN ?_
          refine VO.gN ?_
          refine VO.gN ?_
          refine VO.gN ?_
          refine VO.gN ?_
          refine VO.gN ?_
          refine VO.gN ?_
          refine VO.y rfl (.pF rfl rfl) ?_
          refine VO.as ?_
          refine VO.k8 0 1 2 3 5 6 10 14 ?_
          refine outBN ?_
          refine outN ?_
          refine VC.seq ?_
          refine VC.rs ?_
          refine VO.mv ?_
          refine VO.y rfl (.not rfl) ?_
          refine VO.mv ?_
          refine VO.gN ?_
          refine VO.gN ?_
          refine VO.gN ?_
          refine VO.y rfl (.pT rfl rfl) ?_
          refine VO.mv ?_
          refine VO.gN ?_
          refine VO.gN ?_
          refine VO.gN ?_
          refine VO.y rfl (.pT rfl rfl) ?_
          refine VO.k9 0 1 2 3 5 6 10 14 49 ?_
          refine VC.condT rfl ?_
          refine VC.rs ?_
          refine VO.as ?_
          refine VO.keep [102, 0] [(102, mone g1 (.cells [Value.int .i64 (d0.1), Value.int .i64 (d0.2.1), Value.int .u8 (d0.2.2.1), Value.int .i64 (d0.2.2.2.1), Value.slice p0_A4 (d0.2.2.2.2.1.length) (p0_c4), Value.int .i64 (d0.2.2.2.2.2.1), Value.int .i64 (d0.2.2.2.2.2.2.1), Value.slice p0_A7 (d0.2.2.2.2.2.2.2.length) (p0_c7)].toArray 26 (0, 0))), (0, wm W)] (by kernel_rfl) ?_
          refine VO.k9 0 1 2 3 5 6 10 14 49 ?_
          refine VC.ret ?_
          refine outR ?_
          refine ⟨_, _, res_run (rs := [.tmp 2]) rfl (.tmp rfl .nil), fun W_ hI => out_of (l := []) hI [] rfl rfl (mle_refl _) (fun hS_ => ?_)⟩
          dsimp only [packV]
          all_goals (first | rfl | (exact fin0_check11_ok))
      · -- FFF
        refine VC.skip ?_
        refine outBN ?_
        refine outN ?_
        refine VC.seq ?_
        refine VC.rs ?_
        refine VO.mv ?_
        refine VO.y rfl (.not rfl) ?_
        refine VO.mv ?_
        refine VO.gN ?_
        refine VO.gN ?_
        refine VO.gN ?_
        refine VO.y rfl (.pT rfl rfl) ?_
        refine VO.mv ?_
        refine VO.gN ?_
        refine VO.gN ?_
        refine VO.gN ?_
        refine VO.y rfl (.pT rfl rfl) ?_
        refine VO.k9 0 1 2 3 5 6 10 14 49 ?_
        refine VC.condT rfl ?_
        refine VC.rs ?_
        refine VO.as ?_
        refine VO.k9 0 1 2 3 5 6 10 14 49 ?_
        refine VC.ret ?_
        refine outR ?_
        refine ⟨_, _, res_run (rs := [.tmp 2]) rfl (.tmp rfl .nil), fun W_ hI => out_of (l := []) hI [] rfl rfl (mle_refl _) (fun hS_ => ?_)⟩
        dsimp only [packV]
        all_goals (first | rfl | (exact fin0_check11_ok))
end
section
set_option linter.unusedVariables false
set_option linter.unusedSimpArgs false
set_option maxRecDepth 4000
theorem CopyStarts_ok (W : World) {v0 : Value} {d0 : List DStart} (h0 : Rd (.sl TStart) (wm W) [v0] d0) (e0 : d0.length ≤ 8796093020000) : CallR Try.prog 61 [v0] W (mnil) (fun v m' => ∃ (s0 : Value), v = s0 ∧ Ow (.sl TStart) m' [s0] (d0)) := by
  obtain ⟨A0, c0, rfl, l0, k0⟩ := h0.slice
  simp only [maxLen] at k0
  refine CallR.ofA (n := 6) Try.func61 rfl rfl rfl ?_
  refine VC.rs ?_
  refine VO.as ?_
  refine VO.k2 0 2 ?_
  refine VC.rs ?_
  refine VO.bsl (cs := []) 102 rfl rfl tsl23 tz57 rfl rfl (fun g1 => ?_)
  refine VO.mv ?_
  have ho4 : OwnL TStart (mone g1 (.cells [].toArray 57 (0, 0))) mnil (Value.slice (some ⟨g1, 0, none⟩) (0) (0)) [] := OwnL.lit 0 All2c.nil rfl rfl
  obtain ⟨mo3, cs3, hM3, hA3, hC3⟩ := ho4
  obtain ⟨all3, hS3, hR3⟩ := Rd.srcI (P := Try.prog) (h0) Try.underlying23
  refine VO.app 102 rfl rfl rfl tsl23 tz57 rfl rfl hM3 hA3 (hS3 _ 0 rfl) hR3.nice bdm bd (by decide) (fun v3 m3 hN3 => ?_)
  have ho3 : OwnL TStart m3 mnil v3 (d0) := OwnL.more hC3 hN3 (All2c.mono hR3 fun _ _ h => Rd.flat rfl h _)
  obtain ⟨A3, c3, rfl, l3, k3⟩ := ho3.slice
  simp only [maxLen] at k3
  refine VO.as ?_
  refine VO.k2 0 2 ?_
  refine VC.ret ?_
  refine ⟨_, _, res_run (rs := [.tmp 2]) rfl (.tmp rfl .nil), fun W_ hI => out_of (l := [m3]) hI [102] rfl rfl (mle_refl _) (fun hS_ => ?_)⟩
  dsimp only [packV]
  have he0 : (d0 : Ty.Den (.sl TStart)) = d0 := by first | rfl | (simp [*]; done)
  refine ⟨Value.slice A3 ((d0).length) (c3), ?_, ?_⟩
  rotate_left
  · rw [he0]; exact (Ow.up (OwnL.ow ho3 rfl) (hS_.1 _ (.head _)))
  all_goals (first | rfl | (simp [*]; done))
end
section
set_option linter.unusedVariables false
def putAll : List Int → Bytes
  | [] => []
  | x :: r => venc x.toNat ++ putAll r
theorem putAll_app : ∀ (a b : List Int), putAll (a ++ b) = putAll a ++ putAll b
  | [], _ => rfl
  | x :: r, b => by rw [List.cons_append, putAll, putAll, putAll_app r b, List.append_assoc]
theorem putAll_next {l : List Int} {d b : Bytes} {k : Nat} {x : Int} (h : b = d ++ putAll (l.take k)) (hx : l[k]? = some x) : b ++ venc x.toNat = d ++ putAll (l.take (k + 1)) := by
  rw [take_one hx, putAll_app, h, List.append_assoc]
  congr 1
  simp [putAll]
theorem putAll_len : ∀ {l : List Int}, (∀ x ∈ l, x < 18446744073709551616) → (putAll l).length ≤ 10 * l.length
  | [], _ => Nat.zero_le _
  | x :: r, h => by
    have h1 := venc_len (x := x.toNat) (by have := h x (.head _); omega)
    have h2 := putAll_len fun y hy => h y (.tail _ hy)
    rw [putAll, List.length_append, List.length_cons]; omega
def sEnc : List DStart → Bytes
  | [] => []
  | s :: r => venc s.1.toNat ++ (venc s.2.toNat ++ sEnc r)
def csEnc : List DCommit → Bytes
  | [] => []
  | c :: r => venc (cEnc c).length ++ (cEnc c ++ csEnc r)
theorem sEnc_app : ∀ (a b : List DStart), sEnc (a ++ b) = sEnc a ++ sEnc b
  | [], _ => rfl
  | x :: r, b => by rw [List.cons_append, sEnc, sEnc, sEnc_app r b]; simp only [List.append_assoc]
theorem csEnc_app : ∀ (a b : List DCommit), csEnc (a ++ b) = csEnc a ++ csEnc b
  | [], _ => rfl
  | x :: r, b => by rw [List.cons_append, csEnc, csEnc, csEnc_app r b]; simp only [List.append_assoc]
def lBody (m : DMessage) : Bytes :=
  if m.1 = 1 then venc m.2.2.1.toNat ++ (venc m.2.2.2.1.toNat ++ (venc m.2.2.2.2.1.length ++ sEnc m.2.2.2.2.1))
  else if m.1 = 2 then venc m.2.2.2.2.2.1.toNat ++ (venc m.2.2.2.2.2.2.1.toNat ++ (venc m.2.2.2.2.2.2.2.length ++ csEnc m.2.2.2.2.2.2.2)) else venc m.2.2.2.1.toNat
def lEnc (m : DMessage) : Bytes := venc m.1.toNat ++ (venc m.2.1.toNat ++ lBody m)
def lEncode (m : DMessage) : Bytes × Int := if lCheck m = 0 then (lEnc m, 0) else ([], lCheck m)
theorem sGo_facts {en : Int} : ∀ {l : List DStart} {le lf : Int} {i : Nat}, sGo en le lf i l → 0 ≤ le → le ≤ 1048576 → 0 ≤ lf → en ≤ 1048576 → le + (l.length : Int) ≤ 1048576 ∧ ∀ s ∈ l, (1 ≤ s.1 ∧ s.1 ≤ 1048576) ∧ 1 ≤ s.2 ∧ s.2 ≤ 1048576
  | [], le, lf, i, _, h0, h1, _, _ => ⟨by simp; omega, fun s h => by cases h⟩
  | x :: r, le, lf, i, h, h0, h1, h2, h3 => by
    obtain ⟨k1, k2, k3, k4, k5, k6⟩ := h
    obtain ⟨q1, q2⟩ := sGo_facts k6 (by omega) k2 (by omega) h3
    refine ⟨by simp only [List.length_cons]; omega, fun s hs => ?_⟩
    rcases List.mem_cons.1 hs with rfl | hs
    · exact ⟨⟨by omega, by omega⟩, by omega, by omega⟩
    · exact q2 s hs
section
variable {m : DMessage}
theorem lc_nums (h : lCheck m = 0) : 1 ≤ m.1 ∧ m.1 ≤ 3 ∧ 1 ≤ m.2.1 ∧ m.2.1 ≤ 1048576 := by
  unfold lCheck at h
  split at h
  · rename_i hh
    rcases hh.2 with ⟨a, _⟩ | ⟨a, _⟩ | ⟨a, _⟩ <;> omega
  · cases h
theorem lc_hello (h : lCheck m = 0) (k : m.1 = 1) : (1 ≤ m.2.2.1 ∧ m.2.2.1 ≤ 3) ∧ (0 ≤ m.2.2.2.1 ∧ m.2.2.2.1 ≤ 1048576) ∧ m.2.2.2.2.1.length ≤ 1048576 ∧ (∀ s ∈ m.2.2.2.2.1, (1 ≤ s.1 ∧ s.1 ≤ 1048576) ∧ 1 ≤ s.2 ∧ s.2 ≤ 1048576) ∧
    m.2.2.2.2.2.1 = 0 ∧ m.2.2.2.2.2.2.1 = 0 ∧ m.2.2.2.2.2.2.2 = [] := by
  unfold lCheck at h
  split at h
  · rename_i hh
    rcases hh.2 with ⟨_, b⟩ | ⟨a, _⟩ | ⟨a, _⟩
    · obtain ⟨b1, b2, b3, b4, b5, b6⟩ := b
      unfold sCheck at b2
      split at b2
      · rename_i hq
        obtain ⟨q1, q2⟩ := sGo_facts hq.2.2.2 (by omega) (by omega) (by omega) hq.2.1
        exact ⟨b1, ⟨hq.1, hq.2.1⟩, by omega, q2, b4, b5, List.eq_nil_of_length_eq_zero b6⟩
      · cases b2
    · omega
    · omega
  · cases h
theorem lc_ack (h : lCheck m = 0) (k1 : ¬ m.1 = 1) (k2 : ¬ m.1 = 2) : ackM m ∧ m.1 = 3 := by
  unfold lCheck at h
  split at h
  · rename_i hh
    rcases hh.2 with ⟨a, _⟩ | ⟨a, _⟩ | ⟨a, b⟩
    · omega
    · omega
    · exact ⟨b, a⟩
  · cases h
theorem cEnc_len {c : DCommit} (h : cCheck c = 0) : (cEnc c).length ≤ 700 := by
  have := cEncode_len c
  unfold cEncode at this
  rw [if_pos h] at this
  exact this
end
def lHd (m : DMessage) : Bytes := venc m.1.toNat ++ (venc m.2.1.toNat ++ (venc m.2.2.1.toNat ++ (venc m.2.2.2.1.toNat ++ venc m.2.2.2.2.1.length)))
def lHs (m : DMessage) : Bytes := venc m.1.toNat ++ (venc m.2.1.toNat ++ (venc m.2.2.2.2.2.1.toNat ++ (venc m.2.2.2.2.2.2.1.toNat ++ venc m.2.2.2.2.2.2.2.length)))
theorem lEncode_bad {m : DMessage} (h : ¬ lCheck m = 0) : lEncode m = ([], lCheck m) := if_neg h
theorem lEncode_hello {m : DMessage} (h : lCheck m = 0) (k : m.1 = 1) : lEncode m = (lHd m ++ sEnc m.2.2.2.2.1, 0) := by
  unfold lEncode; rw [if_pos h, lEnc, lBody, if_pos k, lHd]; simp only [List.append_assoc]
theorem lEncode_ship {m : DMessage} (h : lCheck m = 0) (k1 : ¬ m.1 = 1) (k : m.1 = 2) : lEncode m = (lHs m ++ csEnc m.2.2.2.2.2.2.2, 0) := by
  unfold lEncode; rw [if_pos h, lEnc, lBody, if_neg k1, if_pos k, lHs]; simp only [List.append_assoc]
theorem lEncode_ack {m : DMessage} (h : lCheck m = 0) (k1 : ¬ m.1 = 1) (k : ¬ m.1 = 2) : lEncode m = (venc m.1.toNat ++ (venc m.2.1.toNat ++ venc m.2.2.2.1.toNat), 0) := by
  unfold lEncode; rw [if_pos h, lEnc, lBody, if_neg k1, if_neg k]
theorem cEncode_is {c : DCommit} (h : cCheck c = 0) : cEncode c = (cEnc c, 0) := if_pos h
def rStart (B : Bytes) (s : RS) : DStart × RS := (((rNum B 1048576 s).1, (rNum B 1048576 (rNum B 1048576 s).2).1), (rNum B 1048576 (rNum B 1048576 s).2).2)
def pStarts (B : Bytes) : Nat → RS → List DStart × RS
  | 0, s => ([], s)
  | n + 1, s => if s.2 = true then ([], s) else ((rStart B s).1 :: (pStarts B n (rStart B s).2).1, (pStarts B n (rStart B s).2).2)
def pComms (R : RS → DCommit × RS) : Nat → RS → List DCommit × RS
  | 0, s => ([], s)
  | n + 1, s => if s.2 = true then ([], s) else ((R s).1 :: (pComms R n (R s).2).1, (pComms R n (R s).2).2)
def lRun (R : RS → DCommit × RS) (B : Bytes) : DMessage × RS :=
  let k := rNum B 3 (0, false)
  let e := rNum B 1048576 k.2
  if k.1 = 1 then
    let r := rNum B 3 e.2
    let n := rNum B 1048576 r.2
    let c := rNum B 1048576 n.2
    let l := pStarts B c.1.toNat c.2
    ((k.1, e.1, r.1, n.1, l.1, 0, 0, []), l.2)
  else if k.1 = 2 then
    let f := rNum B 1048576 e.2
    let p := rNum B 1048576 f.2
    let c := rNum B 4 p.2
    let l := pComms R c.1.toNat c.2
    ((k.1, e.1, 0, 0, [], f.1, p.1, l.1), l.2)
  else
    let n := rNum B 1048576 e.2
    ((k.1, e.1, 0, n.1, [], 0, 0, []), n.2)
def lDecG (R : RS → DCommit × RS) (B : Bytes) : DMessage × Int := if (lRun R B).2.2 = false ∧ (lRun R B).2.1 = (B.length : Int) ∧ lCheck (lRun R B).1 = 0 then ((lRun R B).1, 0) else (zeroM, 5)
structure Good (R : RS → DCommit × RS) (B : Bytes) : Prop where
  there : ∀ {a : Nat} {c : DCommit} {r : Bytes}, B.drop a = venc (cEnc c).length ++ (cEnc c ++ r) → a ≤ B.length → cCheck c = 0 → R ((a : Int), false) = (c, (((a + ((venc (cEnc c).length).length + (cEnc c).length) : Nat) : Int), false))
  back : ∀ {s e : RS} {c : DCommit}, rOk B s → R s = (c, e) → e.2 = false → s.2 = false ∧ rOk B e ∧ cCheck c = 0 ∧ B.drop s.1.toNat = venc (cEnc c).length ++ (cEnc c ++ B.drop e.1.toNat)
section
variable {B : Bytes} {R : RS → DCommit × RS}
theorem starts_there : ∀ {l : List DStart} {a : Nat} {r : Bytes}, B.drop a = sEnc l ++ r → a ≤ B.length → (∀ s ∈ l, (1 ≤ s.1 ∧ s.1 ≤ 1048576) ∧ 1 ≤ s.2 ∧ s.2 ≤ 1048576) → pStarts B l.length ((a : Int), false) = (l, (((a + (sEnc l).length : Nat) : Int), false))
  | [], a, r, _, _, _ => rfl
  | s :: l, a, r, h, ha, hs => by
    obtain ⟨⟨s1, s2⟩, s3, s4⟩ := hs s (.head _)
    rw [sEnc, List.append_assoc, List.append_assoc] at h
    have n1 := num_there (m := 1048576) h (by omega) (by omega)
    have h2 := drop_past h
    have n2 := num_there (m := 1048576) h2 (by omega) (by omega)
    have h3 := drop_past h2
    have ih := starts_there h3 (drop_le h2 (drop_le h ha)) (fun x hx => hs x (.tail _ hx))
    have hr : rStart B ((a : Int), false) = (s, (((a + (venc s.1.toNat).length + (venc s.2.toNat).length : Nat) : Int), false)) := by
      unfold rStart
      rw [n1]
      dsimp only
      rw [n2]
      exact Prod.ext (Prod.ext (by simp only; omega) (by simp only; omega)) rfl
    rw [List.length_cons]
    unfold pStarts
    rw [if_neg (by simp), hr]
    dsimp only
    rw [ih, sEnc]
    simp only [List.length_append, Nat.add_assoc]
theorem starts_back : ∀ (n : Nat) {s e : RS} {l : List DStart}, rOk B s → pStarts B n s = (l, e) → e.2 = false → s.2 = false ∧ rOk B e ∧ B.drop s.1.toNat = sEnc l ++ B.drop e.1.toNat ∧ l.length = n
  | 0, s, e, l, hs, h, he => by cases h; exact ⟨he, hs, rfl, rfl⟩
  | n + 1, s, e, l, hs, h, he => by
    unfold pStarts at h
    by_cases h0 : s.2 = true
    · rw [if_pos h0] at h; cases h; rw [h0] at he; cases he
    · rw [if_neg h0] at h
      have k1 := rNum_ok (m := 1048576) hs (by omega)
      have k2 := rNum_ok (m := 1048576) k1.1 (by omega)
      unfold rStart at h
      generalize ha : rNum B 1048576 s = p at *
      obtain ⟨x, s1⟩ := p
      dsimp only at h k1 k2
      generalize hb : rNum B 1048576 s1 = q at *
      obtain ⟨y, s2⟩ := q
      dsimp only at h k2
      generalize hr : pStarts B n s2 = t at *
      obtain ⟨l1, e1⟩ := t
      cases h
      obtain ⟨a1, a2, a3, a4⟩ := starts_back n k2.1 hr he
      obtain ⟨b1, b2, b3, b4, b5⟩ := num_back k1.1 (by omega) hb a1
      obtain ⟨c1, c2, c3, c4, c5⟩ := num_back hs (by omega) ha b1
      refine ⟨c1, a2, ?_, by simp [a4]⟩
      rw [c5, b5, a3, sEnc]
      simp only [List.append_assoc]
theorem comms_there (hR : Good R B) : ∀ {l : List DCommit} {a : Nat} {r : Bytes}, B.drop a = csEnc l ++ r → a ≤ B.length → (∀ c ∈ l, cCheck c = 0) → pComms R l.length ((a : Int), false) = (l, (((a + (csEnc l).length : Nat) : Int), false))
  | [], a, r, _, _, _ => rfl
  | c :: l, a, r, h, ha, hs => by
    rw [csEnc, List.append_assoc, List.append_assoc] at h
    have n1 := hR.there h ha (hs c (.head _))
    have h2 := drop_past h
    have h3 := drop_past h2
    have ih := comms_there hR h3 (drop_le h2 (drop_le h ha)) (fun x hx => hs x (.tail _ hx))
    rw [List.length_cons]
    unfold pComms
    rw [if_neg (by simp), n1]
    dsimp only
    rw [← Nat.add_assoc, ih, csEnc]
    simp only [List.length_append, Nat.add_assoc]
theorem comms_back (hR : Good R B) : ∀ (n : Nat) {s e : RS} {l : List DCommit}, rOk B s → pComms R n s = (l, e) → e.2 = false → s.2 = false ∧ rOk B e ∧ B.drop s.1.toNat = csEnc l ++ B.drop e.1.toNat ∧ l.length = n
  | 0, s, e, l, hs, h, he => by cases h; exact ⟨he, hs, rfl, rfl⟩
  | n + 1, s, e, l, hs, h, he => by
    unfold pComms at h
    by_cases h0 : s.2 = true
    · rw [if_pos h0] at h; cases h; rw [h0] at he; cases he
    · rw [if_neg h0] at h
      generalize ha : R s = p at *
      obtain ⟨c, s1⟩ := p
      dsimp only at h
      generalize hr : pComms R n s1 = t at *
      obtain ⟨l1, e1⟩ := t
      cases h
      have hs1 : rOk B s1 := by
        cases n with
        | zero => cases hr; exact (hR.back hs ha he).2.1
        | succ n =>
          by_cases hb : s1.2 = true
          · unfold pComms at hr; rw [if_pos hb] at hr; cases hr; rw [hb] at he; cases he
          · exact (hR.back hs ha (by simpa using hb)).2.1
      obtain ⟨a1, a2, a3, a4⟩ := comms_back hR n hs1 hr he
      obtain ⟨b1, b2, b3, b4⟩ := hR.back hs ha a1
      refine ⟨b1, a2, ?_, by simp [a4]⟩
      rw [b4, a3, csEnc]
      simp only [List.append_assoc]
theorem run_there (hR : Good R B) {m : DMessage} {r : Bytes} (h : B = lEnc m ++ r) (hc : lCheck m = 0) : lRun R B = (m, (((lEnc m).length : Int), false)) := by
  obtain ⟨c1, c2, c3, c4⟩ := lc_nums hc
  have e0 : B.drop 0 = venc m.1.toNat ++ (venc m.2.1.toNat ++ (lBody m ++ r)) := by rw [List.drop_zero, h, lEnc]; simp only [List.append_assoc]
  have n0 := num_there (m := 3) e0 (by omega) (by omega)
  have e1 := drop_past e0
  have n1 := num_there (m := 1048576) e1 (by omega) (by omega)
  have e2 := drop_past e1
  have l2 := drop_le e1 (drop_le e0 (Nat.zero_le _))
  have z : ((0 : Int), false) = (((0 : Nat) : Int), false) := rfl
  unfold lRun
  rw [z, n0]
  dsimp only
  rw [n1]
  dsimp only
  by_cases k1 : m.1 = 1
  · obtain ⟨⟨r1, r2⟩, ⟨r3, r4⟩, r5, r6, r7, r8, r9⟩ := lc_hello hc k1
    rw [lBody, if_pos k1] at e2
    simp only [List.append_assoc] at e2
    have n2 := num_there (m := 3) e2 (by omega) (by omega)
    have e3 := drop_past e2
    have n3 := num_there (m := 1048576) e3 (by omega) (by omega)
    have e4 := drop_past e3
    have n4 := num_there (m := 1048576) e4 (by omega) (by omega)
    have e5 := drop_past e4
    have n5 := starts_there e5 (drop_le e4 (drop_le e3 (drop_le e2 l2))) r6
    rw [if_pos (by omega), n2]
    dsimp only
    rw [n3]
    dsimp only
    rw [n4]
    dsimp only
    rw [Int.toNat_natCast, n5]
    refine Prod.ext (message_ext ?_ ?_ ?_ ?_ rfl r7.symm r8.symm r9.symm) ?_
    · simp only; omega
    · simp only; omega
    · simp only; omega
    · simp only; omega
    · simp only [lEnc, lBody, if_pos k1, List.length_append, Nat.add_assoc, Nat.zero_add]
  · rw [if_neg (by omega)]
    by_cases k2 : m.1 = 2
    · obtain ⟨⟨r1, r2⟩, ⟨r3, r4⟩, r5, r6, r7, r8, r9, r10, r11⟩ := lCheck_ship hc k2
      rw [lBody, if_neg k1, if_pos k2] at e2
      simp only [List.append_assoc] at e2
      have n2 := num_there (m := 1048576) e2 (by omega) (by omega)
      have e3 := drop_past e2
      have n3 := num_there (m := 1048576) e3 (by omega) (by omega)
      have e4 := drop_past e3
      have n4 := num_there (m := 4) e4 (by omega) (by omega)
      have e5 := drop_past e4
      have n5 := comms_there hR e5 (drop_le e4 (drop_le e3 (drop_le e2 l2))) (cFollowsAt_ok r7)
      rw [if_pos (by omega), n2]
      dsimp only
      rw [n3]
      dsimp only
      rw [n4]
      dsimp only
      rw [Int.toNat_natCast, n5]
      refine Prod.ext (message_ext ?_ ?_ r9.symm r10.symm (List.eq_nil_of_length_eq_zero r11).symm ?_ ?_ rfl) ?_
      · simp only; omega
      · simp only; omega
      · simp only; omega
      · simp only; omega
      · simp only [lEnc, lBody, if_neg k1, if_pos k2, List.length_append, Nat.add_assoc, Nat.zero_add]
    · obtain ⟨⟨⟨r1, r2⟩, r3, r4, r5, r6, r7⟩, r8⟩ := lc_ack hc k1 k2
      rw [lBody, if_neg k1, if_neg k2] at e2
      have n2 := num_there (m := 1048576) e2 (by omega) (by omega)
      rw [if_neg (by omega), n2]
      refine Prod.ext (message_ext ?_ ?_ r3.symm ?_ (List.eq_nil_of_length_eq_zero r4).symm r5.symm r6.symm (List.eq_nil_of_length_eq_zero r7).symm) ?_
      · simp only; omega
      · simp only; omega
      · simp only; omega
      · simp only [lEnc, lBody, if_neg k1, if_neg k2, List.length_append, Nat.add_assoc, Nat.zero_add]
theorem run_back (hR : Good R B) (h1 : (lRun R B).2.2 = false) (h2 : (lRun R B).2.1 = (B.length : Int)) (hc : lCheck (lRun R B).1 = 0) : B = lEnc (lRun R B).1 := by
  have h0 : rOk B (0, false) := ⟨Int.le_refl _, by simp⟩
  have k0 := rNum_ok (m := 3) h0 (by omega)
  have k1 := rNum_ok (m := 1048576) k0.1 (by omega)
  have nil : ∀ {e : RS}, e.1 = (B.length : Int) → B.drop e.1.toNat = [] := fun h => List.drop_of_length_le (by omega)
  unfold lRun at *
  generalize ha : rNum B 3 (0, false) = a at *
  obtain ⟨x, s1⟩ := a
  dsimp only at *
  generalize hb : rNum B 1048576 s1 = b at *
  obtain ⟨y, s2⟩ := b
  dsimp only at *
  by_cases q1 : x = 1
  · simp only [if_pos q1] at *
    have k2 := rNum_ok (m := 3) k1.1 (by omega)
    generalize hd : rNum B 3 s2 = d at *
    obtain ⟨u, s3⟩ := d
    dsimp only at *
    have k3 := rNum_ok (m := 1048576) k2.1 (by omega)
    generalize he : rNum B 1048576 s3 = e at *
    obtain ⟨v, s4⟩ := e
    dsimp only at *
    have k4 := rNum_ok (m := 1048576) k3.1 (by omega)
    generalize hf : rNum B 1048576 s4 = f at *
    obtain ⟨w, s5⟩ := f
    dsimp only at *
    generalize hl : pStarts B w.toNat s5 = l at *
    obtain ⟨l, s6⟩ := l
    dsimp only at *
    obtain ⟨a1, a2, a3, a4⟩ := starts_back _ k4.1 hl h1
    obtain ⟨b1, b2, b3, b4, b5⟩ := num_back k3.1 (by omega) hf a1
    obtain ⟨c1, c2, c3, c4, c5⟩ := num_back k2.1 (by omega) he b1
    obtain ⟨d1, d2, d3, d4, d5⟩ := num_back k1.1 (by omega) hd c1
    obtain ⟨e1, e2, e3, e4, e5⟩ := num_back k0.1 (by omega) hb d1
    obtain ⟨f1, f2, f3, f4, f5⟩ := num_back h0 (by omega) ha e1
    rw [nil h2, List.append_nil] at a3
    simp only [lEnc, lBody, if_pos q1]
    rw [← a3, a4, ← b5, ← c5, ← d5, ← e5, ← f5]
    rfl
  · simp only [if_neg q1] at *
    by_cases q2 : x = 2
    · simp only [if_pos q2] at *
      have k2 := rNum_ok (m := 1048576) k1.1 (by omega)
      generalize hd : rNum B 1048576 s2 = d at *
      obtain ⟨u, s3⟩ := d
      dsimp only at *
      have k3 := rNum_ok (m := 1048576) k2.1 (by omega)
      generalize he : rNum B 1048576 s3 = e at *
      obtain ⟨v, s4⟩ := e
      dsimp only at *
      have k4 := rNum_ok (m := 4) k3.1 (by omega)
      generalize hf : rNum B 4 s4 = f at *
      obtain ⟨w, s5⟩ := f
      dsimp only at *
      generalize hl : pComms R w.toNat s5 = l at *
      obtain ⟨l, s6⟩ := l
      dsimp only at *
      obtain ⟨a1, a2, a3, a4⟩ := comms_back hR _ k4.1 hl h1
      obtain ⟨b1, b2, b3, b4, b5⟩ := num_back k3.1 (by omega) hf a1
      obtain ⟨c1, c2, c3, c4, c5⟩ := num_back k2.1 (by omega) he b1
      obtain ⟨d1, d2, d3, d4, d5⟩ := num_back k1.1 (by omega) hd c1
      obtain ⟨e1, e2, e3, e4, e5⟩ := num_back k0.1 (by omega) hb d1
      obtain ⟨f1, f2, f3, f4, f5⟩ := num_back h0 (by omega) ha e1
      rw [nil h2, List.append_nil] at a3
      simp only [lEnc, lBody, if_neg q1, if_pos q2]
      rw [← a3, a4, ← b5, ← c5, ← d5, ← e5, ← f5]
      rfl
    · simp only [if_neg q2] at *
      generalize hd : rNum B 1048576 s2 = d at *
      obtain ⟨u, s3⟩ := d
      dsimp only at *
      obtain ⟨d1, d2, d3, d4, d5⟩ := num_back k1.1 (by omega) hd h1
      obtain ⟨e1, e2, e3, e4, e5⟩ := num_back k0.1 (by omega) hb d1
      obtain ⟨f1, f2, f3, f4, f5⟩ := num_back h0 (by omega) ha e1
      rw [nil h2, List.append_nil] at d5
      simp only [lEnc, lBody, if_neg q1, if_neg q2]
      rw [← d5, ← e5, ← f5]
      rfl
end
theorem sEnc_len : ∀ {l : List DStart}, (∀ s ∈ l, (1 ≤ s.1 ∧ s.1 ≤ 1048576) ∧ 1 ≤ s.2 ∧ s.2 ≤ 1048576) → (sEnc l).length ≤ 20 * l.length
  | [], _ => Nat.zero_le _
  | s :: l, h => by
    obtain ⟨⟨h1, h2⟩, h3, h4⟩ := h s (.head _)
    have := venc_len (x := s.1.toNat) (by omega)
    have := venc_len (x := s.2.toNat) (by omega)
    have := sEnc_len fun x hx => h x (.tail _ hx)
    rw [sEnc, List.length_append, List.length_append, List.length_cons]; omega
theorem csEnc_len : ∀ {l : List DCommit}, (∀ c ∈ l, cCheck c = 0) → (csEnc l).length ≤ 710 * l.length
  | [], _ => Nat.zero_le _
  | c :: l, h => by
    have h1 := cEnc_len (h c (.head _))
    have := venc_len (x := (cEnc c).length) (by omega)
    have := csEnc_len fun x hx => h x (.tail _ hx)
    rw [csEnc, List.length_append, List.length_append, List.length_cons]; omega
theorem lEnc_len {m : DMessage} (h : lCheck m = 0) : (lEnc m).length ≤ 20971600 + 3000 := by
  obtain ⟨c1, c2, c3, c4⟩ := lc_nums h
  have a1 := venc_len (x := m.1.toNat) (by omega)
  have a2 := venc_len (x := m.2.1.toNat) (by omega)
  have hb : (lBody m).length ≤ 20971550 + 2900 := by
    by_cases k1 : m.1 = 1
    · obtain ⟨⟨r1, r2⟩, ⟨r3, r4⟩, r5, r6, _⟩ := lc_hello h k1
      have b1 := venc_len (x := m.2.2.1.toNat) (by omega)
      have b2 := venc_len (x := m.2.2.2.1.toNat) (by omega)
      have b3 := venc_len (x := m.2.2.2.2.1.length) (by omega)
      have b4 := sEnc_len r6
      rw [lBody, if_pos k1]; simp only [List.length_append]; omega
    · by_cases k2 : m.1 = 2
      · obtain ⟨⟨r1, r2⟩, ⟨r3, r4⟩, r5, r6, r7, _⟩ := lCheck_ship h k2
        have b1 := venc_len (x := m.2.2.2.2.2.1.toNat) (by omega)
        have b2 := venc_len (x := m.2.2.2.2.2.2.1.toNat) (by omega)
        have b3 := venc_len (x := m.2.2.2.2.2.2.2.length) (by omega)
        have b4 := csEnc_len (cFollowsAt_ok r7)
        rw [lBody, if_neg k1, if_pos k2]; simp only [List.length_append]; omega
      · obtain ⟨⟨⟨r1, r2⟩, _⟩, _⟩ := lc_ack h k1 k2
        have b1 := venc_len (x := m.2.2.2.1.toNat) (by omega)
        rw [lBody, if_neg k1, if_neg k2]; omega
  rw [lEnc, List.length_append, List.length_append]; omega
theorem lHd_len {m : DMessage} (h : lCheck m = 0) (k : m.1 = 1) : (lHd m).length ≤ 50 := by
  obtain ⟨c1, c2, c3, c4⟩ := lc_nums h
  obtain ⟨⟨r1, r2⟩, ⟨r3, r4⟩, r5, r6, _⟩ := lc_hello h k
  have := venc_len (x := m.1.toNat) (by omega)
  have := venc_len (x := m.2.1.toNat) (by omega)
  have := venc_len (x := m.2.2.1.toNat) (by omega)
  have := venc_len (x := m.2.2.2.1.toNat) (by omega)
  have := venc_len (x := m.2.2.2.2.1.length) (by omega)
  rw [lHd]; simp only [List.length_append]; omega
theorem lHs_len {m : DMessage} (h : lCheck m = 0) (k : m.1 = 2) : (lHs m).length ≤ 50 := by
  obtain ⟨c1, c2, c3, c4⟩ := lc_nums h
  obtain ⟨⟨r1, r2⟩, ⟨r3, r4⟩, r5, r6, r7, _⟩ := lCheck_ship h k
  have := venc_len (x := m.1.toNat) (by omega)
  have := venc_len (x := m.2.1.toNat) (by omega)
  have := venc_len (x := m.2.2.2.2.2.1.toNat) (by omega)
  have := venc_len (x := m.2.2.2.2.2.2.1.toNat) (by omega)
  have := venc_len (x := m.2.2.2.2.2.2.2.length) (by omega)
  rw [lHs]; simp only [List.length_append]; omega
theorem hd_room {m : DMessage} {b : Bytes} {k : Nat} (h : lCheck m = 0) (k1 : m.1 = 1) (hb : b = lHd m ++ sEnc (m.2.2.2.2.1.take k)) : b.length ≤ 50 + 20 * k := by
  have h1 := lHd_len h k1
  have h2 := sEnc_len fun s hs => (lc_hello h k1).2.2.2.1 s (List.mem_of_mem_take (i := k) hs)
  simp only [List.length_take] at h2
  rw [hb, List.length_append]; omega
theorem hs_room {m : DMessage} {b : Bytes} {k : Nat} (h : lCheck m = 0) (k1 : m.1 = 2) (hb : b = lHs m ++ csEnc (m.2.2.2.2.2.2.2.take k)) : b.length ≤ 50 + 710 * k := by
  have h1 := lHs_len h k1
  have h2 := csEnc_len fun c hc => cFollowsAt_ok (lCheck_ship h k1).2.2.2.2.1 c (List.mem_of_mem_take (i := k) hc)
  simp only [List.length_take] at h2
  rw [hb, List.length_append]; omega
theorem ship_nums {m : DMessage} (h : lCheck m = 0) (k : m.1 = 2) : (1 ≤ m.2.2.2.2.2.1 ∧ m.2.2.2.2.2.1 ≤ 1048576) ∧ (0 ≤ m.2.2.2.2.2.2.1 ∧ m.2.2.2.2.2.2.1 ≤ 1048576) ∧ m.2.2.2.2.2.2.2.length ≤ 4 := by
  obtain ⟨r1, ⟨r3, r4⟩, r5, r6, r7, _⟩ := lCheck_ship h k
  have := lc_nums h
  exact ⟨r1, ⟨r3, by omega⟩, r6⟩
theorem start_of {m : DMessage} (h : lCheck m = 0) (k1 : m.1 = 1) {k : Nat} {s : DStart} (hs : m.2.2.2.2.1[k]? = some s) : (1 ≤ s.1 ∧ s.1 ≤ 1048576) ∧ 1 ≤ s.2 ∧ s.2 ≤ 1048576 := (lc_hello h k1).2.2.2.1 s (List.mem_of_getElem? hs)
theorem comm_of {m : DMessage} (h : lCheck m = 0) (k1 : m.1 = 2) {k : Nat} {c : DCommit} (hc : m.2.2.2.2.2.2.2[k]? = some c) : cCheck c = 0 := cFollowsAt_ok (lCheck_ship h k1).2.2.2.2.1 c (List.mem_of_getElem? hc)
theorem lEncode_len (m : DMessage) : (lEncode m).1.length ≤ 20974600 := by
  unfold lEncode
  split
  · exact lEnc_len (by assumption)
  · exact Nat.zero_le _
section
variable {R R' : Bytes → RS → DCommit × RS}
theorem decG_there (hR : ∀ B : Bytes, B.length ≤ 9223372036854775807 → Good (R B) B) {m : DMessage} (hc : lCheck m = 0) : lDecG (R (lEnc m)) (lEnc m) = (m, 0) := by
  have h := run_there (hR (lEnc m) (by have := lEnc_len (m := m) (by assumption); omega)) (List.append_nil _).symm hc
  unfold lDecG
  rw [h, if_pos ⟨rfl, rfl, hc⟩]
theorem decG_back (hR : ∀ B : Bytes, B.length ≤ 9223372036854775807 → Good (R B) B) {B : Bytes} (hB : B.length ≤ 9223372036854775807) (h : (lDecG (R B) B).2 = 0) : lCheck (lDecG (R B) B).1 = 0 ∧ B = lEnc (lDecG (R B) B).1 := by
  unfold lDecG at h ⊢
  split at h
  · rename_i hh
    rw [if_pos hh]
    exact ⟨hh.2.2, run_back (hR B hB) hh.1 hh.2.1 hh.2.2⟩
  · cases h
theorem decG_bad {B : Bytes} (h : ¬ (lDecG (R B) B).2 = 0) : lDecG (R B) B = (zeroM, 5) := by
  unfold lDecG at h ⊢
  split at h
  · exact absurd rfl h
  · rename_i hh; rw [if_neg hh]
theorem decG_same (hR : ∀ B : Bytes, B.length ≤ 9223372036854775807 → Good (R B) B) (hR' : ∀ B : Bytes, B.length ≤ 9223372036854775807 → Good (R' B) B) (B : Bytes) (hB : B.length ≤ 9223372036854775807) : lDecG (R' B) B = lDecG (R B) B := by
  by_cases h : (lDecG (R B) B).2 = 0
  · obtain ⟨h1, h2⟩ := decG_back hR hB h
    have := decG_there hR' h1
    rw [← h2] at this
    rw [this]
    exact Prod.ext rfl h.symm
  · by_cases h' : (lDecG (R' B) B).2 = 0
    · obtain ⟨h1, h2⟩ := decG_back hR' hB h'
      have := decG_there hR h1
      rw [← h2] at this
      rw [this] at h
      exact absurd rfl h
    · rw [decG_bad h, decG_bad h']
end
theorem drop_at {B : Bytes} {a b : Int} (h0 : 0 ≤ a) (h : a ≤ b) : (B.drop a.toNat).drop (b - a).toNat = B.drop b.toNat := by
  rw [List.drop_drop]; congr 1; omega
theorem dropV_zero (A : Option Addr) (l c : Nat) : dropV (.slice A l c) 0 1 = .slice A l c := by
  unfold dropV
  have : (fun x : Addr => x.add (0 * 1)) = id := by funext x; simp [Addr.add]
  simp only [Nat.sub_zero, this, Option.map_id, id]
  split <;> rfl
theorem dropV_zero2 (A : Option Addr) (l c k : Nat) : dropV (dropV (.slice A l c) k 1) 0 1 = dropV (.slice A l c) k 1 := by
  rw [show dropV (.slice A l c) k 1 = .slice (if c = k then A else A.map (·.add (k * 1))) (l - k) (c - k) from rfl, dropV_zero]
theorem add_sub_it (a b : Int) : a + b - a = b := by omega
def lComm (B : Bytes) (s : RS) : DCommit × RS :=
  let n := rNum B ((B.length : Int) - s.1) s
  if n.2.2 = true ∨ (B.length : Int) - n.2.1 < n.1 then (zC, (n.2.1, true)) else ((cDecode ((B.drop n.2.1.toNat).take n.1.toNat)).1, (n.2.1 + n.1, decide (¬ (cDecode ((B.drop n.2.1.toNat).take n.1.toNat)).2 = 0)))
def rComm (B : Bytes) (s : RS) : DCommit × RS :=
  let x := rBytes B (rNum B 65536 s).1 (rNum B 65536 s).2
  ((cDecode x.1).1, (x.2.1, x.2.2 || decide (¬ (cDecode x.1).2 = 0)))
theorem good1 (B : Bytes) (hB : B.length ≤ 9223372036854775807) : Good (lComm B) B where
  there := fun {a c r} h ha hc => by
    have hl := drop_len h
    simp only [List.length_append] at hl
    have n1 := num_there (m := (B.length : Int) - (a : Int)) h (by omega) (by omega)
    have h2 := drop_past h
    have l2 := drop_le h ha
    have l3 := drop_le h2 l2
    unfold lComm
    dsimp only
    rw [n1]
    dsimp only
    have ht : (B.drop (((a + (venc (cEnc c).length).length : Nat) : Int)).toNat).take (((cEnc c).length : Nat) : Int).toNat = cEnc c := by
      rw [Int.toNat_natCast, Int.toNat_natCast, h2, List.take_left]
    rw [ht, cDecode_there hc, if_neg (by simp only [Bool.false_eq_true, false_or]; omega)]
    exact Prod.ext rfl (Prod.ext (by simp only; omega) (by simp))
  back := fun {s e c} hs h he => by
    have k := rNum_ok (m := (B.length : Int) - s.1) hs
    unfold lComm at h
    dsimp only at h
    have hm : (B.length : Int) - s.1 ≤ 9223372036854775807 := by have := hs.1; omega
    · have k := k hm
      generalize hn : rNum B ((B.length : Int) - s.1) s = p at *
      obtain ⟨x, s1⟩ := p
      dsimp only at h k
      by_cases hb : s1.2 = true ∨ (B.length : Int) - s1.1 < x
      · rw [if_pos hb] at h; cases h; cases he
      · rw [if_neg hb] at h
        cases h
        have hz : (cDecode ((B.drop s1.1.toNat).take x.toNat)).2 = 0 := by simpa using he
        obtain ⟨q1, q2⟩ := cDecode_back hz
        have hs2 : s1.2 = false := by cases hq : s1.2 with
          | false => rfl
          | true => exact absurd (.inl hq) hb
        obtain ⟨c1, c2, c3, c4, c5⟩ := num_back hs hm hn hs2
        have hx : ¬ (B.length : Int) - s1.1 < x := fun hq => hb (.inr hq)
        have hlen : (cEnc (cDecode ((B.drop s1.1.toNat).take x.toNat)).1).length = x.toNat := by
          rw [← q2]; simp only [List.length_take, List.length_drop]; have := c4.1; omega
        refine ⟨c1, ⟨by have := c4.1; simp only; omega, by simp only; omega⟩, q1, ?_⟩
        rw [c5, hlen]
        congr 1
        rw [← q2]
        simp only
        rw [show (s1.1 + x).toNat = s1.1.toNat + x.toNat by have := c4.1; omega, ← List.drop_drop, List.take_append_drop]
theorem good2 (B : Bytes) (_ : B.length ≤ 9223372036854775807) : Good (rComm B) B where
  there := fun {a c r} h ha hc => by
    have n1 := num_there (m := 65536) h (by have := cEnc_len hc; omega) (by omega)
    have h2 := drop_past h
    have n2 := bytes_there h2 (drop_le h ha)
    unfold rComm
    dsimp only
    rw [n1]
    dsimp only
    rw [n2]
    dsimp only
    rw [cDecode_there hc]
    simp only [Nat.add_assoc]
    rfl
  back := fun {s e c} hs h he => by
    have k := rNum_ok (m := 65536) hs (by omega)
    unfold rComm at h
    dsimp only at h
    generalize hn : rNum B 65536 s = p at *
    obtain ⟨x, s1⟩ := p
    dsimp only at h k
    generalize hb : rBytes B x s1 = q at *
    obtain ⟨t, s2⟩ := q
    cases h
    simp only [Bool.or_eq_false_iff, decide_eq_false_iff_not, Decidable.not_not] at he
    obtain ⟨q1, q2⟩ := cDecode_back he.2
    obtain ⟨a1, a2, a3, a4⟩ := bytes_back k.1 k.2.1 hb he.1
    obtain ⟨c1, c2, c3, c4, c5⟩ := num_back hs (by omega) hn a1
    refine ⟨c1, a3, q1, ?_⟩
    rw [c5, a4, ← q2]
    congr 2
    omega
theorem lComm_ok0 {B : Bytes} {s : RS} (h : rOk B s) (hB : B.length ≤ 9223372036854775807) : rOk B (lComm B s).2 ∧ (rNum B ((B.length : Int) - s.1) s).2.1 ≤ (lComm B s).2.1 ∧ s.1 ≤ (rNum B ((B.length : Int) - s.1) s).2.1 := by
  have k := rNum_ok (m := (B.length : Int) - s.1) h (by have := h.1; omega)
  unfold lComm
  dsimp only
  split
  · exact ⟨⟨k.1.1, k.1.2⟩, Int.le_refl _, k.2.2.2.2⟩
  · rename_i hb
    have hx : ¬ (B.length : Int) - (rNum B ((B.length : Int) - s.1) s).2.1 < (rNum B ((B.length : Int) - s.1) s).1 := fun q => hb (.inr q)
    obtain ⟨⟨a1, a2⟩, a3, a4, a5, a6⟩ := k
    exact ⟨⟨by simp only; omega, by simp only; omega⟩, by simp only; omega, a6⟩
section
variable {B : Bytes} {a L : Int} {f : Bool}
theorem lComm_1 (hz : L = (B.length : Int) - a) (h : (rNum B L (a, f)).2.2 = true) : lComm B (a, f) = (zC, ((rNum B L (a, f)).2.1, true)) := by
  unfold lComm; dsimp only; rw [← hz, if_pos (.inl h)]
theorem lComm_2 (hz : L = (B.length : Int) - a) (h : (rNum B L (a, f)).2.2 = false) (h2 : (B.length : Int) - (rNum B L (a, f)).2.1 < (rNum B L (a, f)).1) : lComm B (a, f) = (zC, ((rNum B L (a, f)).2.1, true)) := by
  unfold lComm; dsimp only; rw [← hz, if_pos (.inr h2)]
theorem lComm_3 (hz : L = (B.length : Int) - a) (h : (rNum B L (a, f)).2.2 = false) (h2 : ¬ (B.length : Int) - (rNum B L (a, f)).2.1 < (rNum B L (a, f)).1) :
    lComm B (a, f) = ((cDecode ((B.drop (rNum B L (a, f)).2.1.toNat).take (rNum B L (a, f)).1.toNat)).1, ((rNum B L (a, f)).2.1 + (rNum B L (a, f)).1, decide (¬ (cDecode ((B.drop (rNum B L (a, f)).2.1.toNat).take (rNum B L (a, f)).1.toNat)).2 = 0))) := by
  unfold lComm; dsimp only; rw [← hz, if_neg (by rintro (q | q); rw [h] at q; cases q; exact h2 q)]
end
section
variable {B : Bytes} {R : RS → DCommit × RS}
theorem lDecG_yes {m : DMessage} {e : RS} (h : lRun R B = (m, e)) (h1 : e.2 = false) (h2 : e.1 = (B.length : Int)) (h3 : lCheck m = 0) : lDecG R B = (m, 0) := by
  unfold lDecG; rw [h, if_pos ⟨h1, h2, h3⟩]
theorem lDecG_no {m : DMessage} {e : RS} (h : lRun R B = (m, e)) (h1 : e.2 = true ∨ ¬ e.1 = (B.length : Int) ∨ ¬ lCheck m = 0) : lDecG R B = (zeroM, 5) := by
  unfold lDecG; rw [h, if_neg]
  rintro ⟨a, b, c⟩
  rcases h1 with h1 | h1 | h1
  · rw [show (m, e).2.2 = e.2 from rfl, h1] at a; cases a
  · exact h1 b
  · exact h1 c
theorem lRun_h {l : List DStart} {e : RS} (k : (rNum B 3 (0, false)).1 = 1)
    (hl : pStarts B (rNum B 1048576 (rNum B 1048576 (rNum B 3 (rNum B 1048576 (rNum B 3 (0, false)).2).2).2).2).1.toNat (rNum B 1048576 (rNum B 1048576 (rNum B 3 (rNum B 1048576 (rNum B 3 (0, false)).2).2).2).2).2 = (l, e)) :
    lRun R B = (((rNum B 3 (0, false)).1, (rNum B 1048576 (rNum B 3 (0, false)).2).1, (rNum B 3 (rNum B 1048576 (rNum B 3 (0, false)).2).2).1, (rNum B 1048576 (rNum B 3 (rNum B 1048576 (rNum B 3 (0, false)).2).2).2).1, l, 0, 0, []), e) := by
  unfold lRun; dsimp only; rw [if_pos k, hl]
theorem lRun_s {l : List DCommit} {e : RS} (k1 : ¬ (rNum B 3 (0, false)).1 = 1) (k : (rNum B 3 (0, false)).1 = 2)
    (hl : pComms R (rNum B 4 (rNum B 1048576 (rNum B 1048576 (rNum B 1048576 (rNum B 3 (0, false)).2).2).2).2).1.toNat (rNum B 4 (rNum B 1048576 (rNum B 1048576 (rNum B 1048576 (rNum B 3 (0, false)).2).2).2).2).2 = (l, e)) :
    lRun R B = (((rNum B 3 (0, false)).1, (rNum B 1048576 (rNum B 3 (0, false)).2).1, 0, 0, [], (rNum B 1048576 (rNum B 1048576 (rNum B 3 (0, false)).2).2).1, (rNum B 1048576 (rNum B 1048576 (rNum B 1048576 (rNum B 3 (0, false)).2).2).2).1, l), e) := by
  unfold lRun; dsimp only; rw [if_neg k1, if_pos k, hl]
theorem lRun_a (k1 : ¬ (rNum B 3 (0, false)).1 = 1) (k : ¬ (rNum B 3 (0, false)).1 = 2) :
    lRun R B = (((rNum B 3 (0, false)).1, (rNum B 1048576 (rNum B 3 (0, false)).2).1, 0, (rNum B 1048576 (rNum B 1048576 (rNum B 3 (0, false)).2).2).1, [], 0, 0, []), (rNum B 1048576 (rNum B 1048576 (rNum B 3 (0, false)).2).2).2) := by
  unfold lRun; dsimp only; rw [if_neg k1, if_neg k]
theorem lRun_a' (k1 : ¬ (rNum B 3 (0, false)).1 = 1) (k : ¬ (rNum B 3 (0, false)).1 = 2) :
    lRun R B = (((rNum B 3 (0, false)).1, (rNum B 1048576 ((rNum B 3 (0, false)).2.1, (rNum B 3 (0, false)).2.2)).1, 0, (rNum B 1048576 ((rNum B 1048576 ((rNum B 3 (0, false)).2.1, (rNum B 3 (0, false)).2.2)).2.1, (rNum B 1048576 ((rNum B 3 (0, false)).2.1, (rNum B 3 (0, false)).2.2)).2.2)).1, [], 0, 0, []),
      ((rNum B 1048576 ((rNum B 1048576 ((rNum B 3 (0, false)).2.1, (rNum B 3 (0, false)).2.2)).2.1, (rNum B 1048576 ((rNum B 3 (0, false)).2.1, (rNum B 3 (0, false)).2.2)).2.2)).2.1, (rNum B 1048576 ((rNum B 1048576 ((rNum B 3 (0, false)).2.1, (rNum B 3 (0, false)).2.2)).2.1, (rNum B 1048576 ((rNum B 3 (0, false)).2.1, (rNum B 3 (0, false)).2.2)).2.2)).2.2)) := lRun_a k1 k
theorem lDecG_kind (k1 : ¬ (rNum B 3 (0, false)).1 = 1) (k2 : ¬ (rNum B 3 (0, false)).1 = 2) (k3 : ¬ (rNum B 3 (0, false)).1 = 3) : lDecG R B = (zeroM, 5) := by
  refine lDecG_no (lRun_a k1 k2) (.inr (.inr fun hc => ?_))
  have := lc_nums hc
  omega
theorem starts_step {L ss : List DStart} {e : RS} {n a : Int} {b : Bool} (h : (L, e) = (ss ++ (pStarts B n.toNat (a, b)).1, (pStarts B n.toNat (a, b)).2)) (hn : 0 < n) (hb : b = false) :
    (L, e) = ((ss ++ [(rStart B (a, b)).1]) ++ (pStarts B (n - 1).toNat (rStart B (a, b)).2).1, (pStarts B (n - 1).toNat (rStart B (a, b)).2).2) := by
  rw [h, show n.toNat = (n - 1).toNat + 1 by omega, pStarts, if_neg (by rw [hb]; simp), List.append_assoc]; rfl
theorem starts_fin {L ss : List DStart} {e : RS} {n a : Int} {b : Bool} (h : (L, e) = (ss ++ (pStarts B n.toNat (a, b)).1, (pStarts B n.toNat (a, b)).2)) (hn : n ≤ 0 ∨ b = true) : (L, e) = (ss, (a, b)) := by
  rw [h]
  cases hk : n.toNat with
  | zero => simp [pStarts]
  | succ k =>
    rcases hn with hn | hn
    · omega
    · rw [pStarts, if_pos hn]; simp
theorem comms_step {L ss : List DCommit} {e : RS} {n a : Int} {b : Bool} (h : (L, e) = (ss ++ (pComms R n.toNat (a, b)).1, (pComms R n.toNat (a, b)).2)) (hn : 0 < n) (hb : b = false) :
    (L, e) = ((ss ++ [(R (a, b)).1]) ++ (pComms R (n - 1).toNat (R (a, b)).2).1, (pComms R (n - 1).toNat (R (a, b)).2).2) := by
  rw [h, show n.toNat = (n - 1).toNat + 1 by omega, pComms, if_neg (by rw [hb]; simp), List.append_assoc]; rfl
theorem comms_fin {L ss : List DCommit} {e : RS} {n a : Int} {b : Bool} (h : (L, e) = (ss ++ (pComms R n.toNat (a, b)).1, (pComms R n.toNat (a, b)).2)) (hn : n ≤ 0 ∨ b = true) : (L, e) = (ss, (a, b)) := by
  rw [h]
  cases hk : n.toNat with
  | zero => simp [pComms]
  | succ k =>
    rcases hn with hn | hn
    · omega
    · rw [pComms, if_pos hn]; simp
end
def lDec (B : Bytes) : DMessage × Int := lDecG (lComm B) B
theorem lDecG_cases (R : RS → DCommit × RS) (B : Bytes) : (lDecG R B).2 = 0 ∧ lCheck (lDecG R B).1 = 0 ∨ lDecG R B = (zeroM, 5) := by
  unfold lDecG
  split
  · rename_i h; exact .inl ⟨rfl, h.2.2⟩
  · exact .inr rfl
theorem lDec_fits (B : Bytes) : (lDec B).1.2.2.2.2.1.length ≤ 1048576 ∧ (lDec B).1.2.2.2.2.2.2.2.length ≤ 4 ∧ ∀ c ∈ (lDec B).1.2.2.2.2.2.2.2, cCheck c = 0 := by
  rcases lDecG_cases (lComm B) B with ⟨_, h⟩ | h
  · by_cases k1 : (lDec B).1.1 = 1
    · obtain ⟨_, _, r5, _, _, _, r9⟩ := lc_hello h k1
      have r9' : (lDec B).1.2.2.2.2.2.2.2 = [] := r9
      exact ⟨r5, by rw [r9']; exact Nat.zero_le _, by rw [r9']; intro c hc; cases hc⟩
    · by_cases k2 : (lDec B).1.1 = 2
      · obtain ⟨_, _, _, r6, r7, _, _, _, r11⟩ := lCheck_ship h k2
        exact ⟨by have : (lDec B).1.2.2.2.2.1.length = 0 := r11; omega, r6, cFollowsAt_ok r7⟩
      · obtain ⟨⟨_, _, r4, _, _, r7⟩, _⟩ := lc_ack h k1 k2
        have r7' : (lDec B).1.2.2.2.2.2.2.2 = [] := List.eq_nil_of_length_eq_zero r7
        exact ⟨by have : (lDec B).1.2.2.2.2.1.length = 0 := r4; omega, by rw [r7']; exact Nat.zero_le _, by rw [r7']; intro c hc; cases hc⟩
  · unfold lDec; rw [h]
    exact ⟨Nat.zero_le _, Nat.zero_le _, fun c hc => by cases hc⟩
end
section
set_option linter.unusedVariables false
abbrev TBuf : Ty := (.sl .byte)
abbrev DBuf := (List UInt8)
instance decBuf : DecidableEq DBuf := inferInstance
theorem openO_Buf {m : Mem} {cs : List Value} {x0 : List UInt8} (h : Ow TBuf m cs x0) : ∃ (A0 : Option Addr), ∃ (c0 : Nat), ∃ (n0 : Mem), cs = [(.slice A0 x0.length c0 : Value)] ∧ Seps m [n0] ∧ Ow (.sl .byte) n0 [.slice A0 x0.length c0] x0 := by
  have z1 := h
  obtain ⟨A1, c1, rfl, _⟩ := Ow.slice1 h
  exact ⟨A1, c1, _, rfl, Seps.one (mle_refl _), z1⟩
theorem mkO_Buf {m : Mem} {n0 : Mem} (x0 : List UInt8) (hS : Seps m [n0]) {v0 : Value} (h0 : Ow (.sl .byte) n0 [v0] x0) : Ow TBuf m [v0] x0 := by
  exact (h0.up (hS.1 _ (.head _)))
theorem openP_Buf {m : Mem} {cs : List Value} {g : Nat} {x0 : List UInt8} (h : Ow (.ptr TBuf) m cs (g, x0)) : ∃ (E : TypeId), ∃ (A0 : Option Addr), ∃ (c0 : Nat), ∃ (n0 : Mem), cs = [.pointer (some ⟨g, 0, none⟩)] ∧ Seps m [mone g (.cells [(.slice A0 x0.length c0 : Value)].toArray E (0, 0)), n0] ∧ Ow (.sl .byte) n0 [.slice A0 x0.length c0] x0 := by
  obtain ⟨rfl, rc, E, m1, hd, l0, l1, h1⟩ := Ow.opnP h
  obtain ⟨A0, c0, n0, rfl, hS, f0⟩ := openO_Buf h1
  exact ⟨E, A0, c0, n0, rfl, Seps.app hd l0 l1 (Seps.one (mle_refl _)) hS, f0⟩
theorem mkP_Buf {m : Mem} {g : Nat} {E : TypeId} {n0 : Mem}{v0 : Value} (x0 : List UInt8) (hS : Seps m [mone g (.cells [v0].toArray E (0, 0)), n0]) (h0 : Ow (.sl .byte) n0 [v0] x0) : Ow (.ptr TBuf) m [.pointer (some ⟨g, 0, none⟩)] (g, x0) :=
  Ow.clsP hS fun hS => mkO_Buf x0 hS h0
end
section
set_option linter.unusedVariables false
set_option linter.unusedSimpArgs false
set_option maxRecDepth 4000
theorem fnOk13 : fnOk Try.prog 13 = true := by kernel_rfl
theorem fnOk14 : fnOk Try.prog 14 = true := by kernel_rfl
theorem fnOk31 : fnOk Try.prog 31 = true := by kernel_rfl
theorem fnOk33 : fnOk Try.prog 33 = true := by kernel_rfl
theorem tsl60 : tsl Try.prog 60 = some (3, 1, 8) := by kernel_rfl
theorem tz3 : tz Try.prog 3 = some [.int .i64 0] := by kernel_rfl
theorem fin0_lput_ok {P : Prop} (h : P := by first | omega | (simp only [List.length_append, List.length_nil, List.length_cons, List.length_take, List.length_drop] at *; omega) | (have h_ := e0 _ (List.mem_of_getElem? ‹d0[k]? = some _›); omega)) : P := h
theorem lput_ok (W : World) {m1 : Mem} (hm : mle (m1) (wm W)) {v0 : Value} {d0 : List Int} (h0 : Rd (.sl (.int .i64)) (mout (wm W) (m1)) [v0] d0) {g1 : Nat} {d1 : DBuf} (h1 : Ow (.ptr TBuf) m1 [.pointer (some ⟨g1, 0, none⟩)] (g1, d1)) (e0 : ∀ x ∈ d0, 0 ≤ x) (e1 : d1.length + 10 * d0.length ≤ 140737488355000) : CallR Try.prog 31 [v0, .pointer (some ⟨g1, 0, none⟩)] W (m1) (fun v m' => v = .tuple #[] ∧ Ow (.ptr TBuf) m' [.pointer (some ⟨g1, 0, none⟩)] (g1, d1 ++ putAll d0)) := by
  obtain ⟨A0, c0, rfl, l0, k0⟩ := h0.slice
  simp only [maxLen] at k0
  refine CallR.ofB (n := 16) hm Try.func31 rfl rfl rfl ?_
  refine VC.rs ?_
  refine VO.mv ?_
  refine VO.y rfl (.lenS rfl tsl60) ?_
  refine VO.mv ?_
  refine VO.k5 0 1 5 6 7 ?_
  refine VC.block ?_
  refine VC.loop (G := Nat × DBuf × Mem) (fun g => [(7, Value.int .i64 ((((g.1) : Nat) : Int))), (0, Value.slice A0 (d0.length) (c0)), (1, Value.pointer (some ⟨g1, 0, none⟩)), (5, Value.slice A0 (d0.length) (c0)), (6, Value.int .i64 (((d0.length : Nat) : Int)))]) (fun g => [(0, mout (wm W) (m1)), (1, (g.2.2))]) (fun g => ((g.1) ≤ d0.length) ∧ ((g.2.1) = d1 ++ putAll (d0.take (g.1))) ∧ ((g.2.1).length ≤ d1.length + 10 * (g.1)) ∧ (Ow (.ptr TBuf) (g.2.2) [.pointer (some ⟨g1, 0, none⟩)] (g1, (g.2.1)))) (fun g => d0.length - (g.1)) (0, d1, m1) (⟨by omega, by simp [putAll], by (dsimp only; omega), h1⟩) ⟨⟨rfl, rfl, rfl, rfl, rfl, trivial⟩, fun _ h => h.sub [0, 1]⟩ ?_
  rintro ⟨k, b, b_m⟩ ⟨hk, hb, hlb, h_b⟩
  replace hk : k ≤ d0.length := hk
  replace hb : b = d1 ++ putAll (d0.take k) := hb
  replace hlb : b.length ≤ d1.length + 10 * k := hlb
  replace h_b : Ow (.ptr TBuf) b_m [.pointer (some ⟨g1, 0, none⟩)] (g1, b) := h_b
  show VC _ _ _ _ _ [(7, Value.int .i64 (((k : Nat) : Int))), (0, Value.slice A0 (d0.length) (c0)), (1, Value.pointer (some ⟨g1, 0, none⟩)), (5, Value.slice A0 (d0.length) (c0)), (6, Value.int .i64 (((d0.length : Nat) : Int)))] [(0, mout (wm W) (m1)), (1, b_m)]
  refine VC.rs ?_
  refine VO.y rfl (.lss rfl rfl) ?_
  refine VO.k6 0 1 5 6 7 8 ?_
  refine VC.seq ?_
  refine VC.cond rfl (fun hc1 => ?_) (fun hc1 => ?_)
  · -- T
    refine VC.skip ?_
    refine outN ?_
    refine VC.seq ?_
    refine VC.block ?_
    refine VC.rs ?_
    obtain ⟨x2, hx2⟩ : ∃ z_, (d0)[k]? = some z_ := ⟨_, List.getElem?_eq_getElem (by exact fin0_lput_ok)⟩
    obtain ⟨gg2, oo2, ec2, ea2, hce2, hre2⟩ := h0.elem hx2
    cases ea2
    obtain ⟨rfl, q2⟩ := hre2; simp only [inK] at q2
    refine VO.y rfl (.ixI k rfl rfl tsl60 rfl (by exact fin0_lput_ok)) ?_
    refine VO.y rfl (.ld1 0 rfl tk3 rfl hce2) ?_
    refine VO.as ?_
    refine VO.keep [0, 1] [(0, mout (wm W) (m1)), (1, b_m)] (by kernel_rfl) ?_
    refine VO.k7 0 1 4 5 6 7 8 ?_
    refine VC.reg ?_
    obtain ⟨q3_E, q3_A0, q3_c0, q3_n0, _, q3_S, q3_0⟩ := openP_Buf (x0 := b) h_b
    have q3_r0 := Rd.room (q3_0.rd (mle_refl _))
    refine VO.inv _ (fun _ h => h.parts (i := 1) rfl q3_S [105, 104]) ?_
    refine VO.y rfl (.ld1 105 rfl tk30 rfl (cellsAt_one rfl rfl)) ?_
    refine VO.mv ?_
    refine VO.y rfl (.cvI (c := ((x2).toNat : Int)) rfl ⟨_, Try.underlying3⟩ Try.underlying62 (by rw [IntWalk.u64_in _ (by exact fin0_lput_ok)]; first | omega | (exact fin0_lput_ok))) ?_
    refine VO.callN 106 rfl fnOk32 rfl (fun W hW => vAppend_ok W (OwnL.rd (Ow.ownl q3_0 rfl mnil) (hW.at (i := 104) rfl) (mle_nil _)) ((x2).toNat) (by exact fin0_lput_ok) (by exact fin0_lput_ok)) (fun v6 m6 hv6 => ?_)
    obtain ⟨s6_0, rfl, f6_0⟩ := hv6
    have hfa7 := venc_len (x := ((x2).toNat)) (by first | omega | exact or64 (by assumption) _)
    obtain ⟨A6_0, c6_0, eq6_0, l6_0, k6_0⟩ := f6_0.slice
    subst eq6_0
    simp only [maxLen] at k6_0
    refine VO.store (k := 1) (c' := [Value.slice A6_0 ((b ++ venc ((x2).toNat)).length) (c6_0)]) 105 rfl rfl (.inr ⟨tk30, rfl⟩) rfl rfl rfl rfl rfl ?_
    refine VO.gather (l := [mone g1 (.cells [Value.slice A6_0 ((b ++ venc ((x2).toNat)).length) (c6_0)].toArray q3_E (0, 0)), m6]) 108 [105, 106] rfl (fun hg8 => ?_)
    have ho8 : Ow (.ptr TBuf) (muns [mone g1 (.cells [Value.slice A6_0 ((b ++ venc ((x2).toNat)).length) (c6_0)].toArray q3_E (0, 0)), m6]) [.pointer (some ⟨g1, 0, none⟩)] (g1, b ++ venc ((x2).toNat)) := (mkP_Buf (b ++ venc ((x2).toNat)) hg8 (OwnL.ow (Ow.ownl f6_0 rfl mnil) rfl))
    refine VO.k7 0 1 4 5 6 7 8 ?_
    refine outBN ?_
    refine outN ?_
    refine VC.reg ?_
    refine VO.y rfl (.add (c := ((k + 1 : Nat) : Int)) rfl rfl (by omega) ⟨by exact fin0_lput_ok, by exact fin0_lput_ok⟩) ?_
    refine VO.mv ?_
    refine VO.k7 0 1 4 5 6 7 8 ?_
    exact outN ⟨⟨k + 1, b ++ venc ((x2).toNat), muns [mone g1 (.cells [Value.slice A6_0 ((b ++ venc ((x2).toNat)).length) (c6_0)].toArray q3_E (0, 0)), m6]⟩, ⟨by omega, by exact putAll_next hb ‹d0[k]? = some _›, by (simp only [List.length_append] at *; omega), ho8⟩, by exact fin0_lput_ok, ⟨⟨rfl, rfl, rfl, rfl, rfl, trivial⟩, fun _ h => Inv.sub (Inv.num h 108 1 rfl) [0, 1]⟩⟩
  · -- F
    refine VC.exit ?_
    refine outE ?_
    refine outE ?_
    refine outBB ?_
    refine ⟨_, _, res_run (rs := []) rfl .nil, fun W_ hI => out_of (l := [b_m]) hI [1] rfl rfl (mle_refl _) (fun hS_ => ?_)⟩
    dsimp only [packV]
    have hm1_ : (d1 ++ putAll d0 : DBuf) = b := by first | rfl | (rw [hb, List.take_of_length_le (by omega)])
    refine ⟨?_, ?_⟩
    rotate_left
    · rw [hm1_]; exact (Ow.up h_b (hS_.1 _ (.head _)))
    all_goals (first | rfl | (simp [*]; done))
theorem fin0_lEncode_ok {P : Prop} (h : P := by first | omega | (simp only [List.length_append, List.length_nil, List.length_cons, List.length_take, List.length_drop] at *; omega) | (have n_ := lc_nums (Decidable.not_not.1 ‹¬ ¬ lCheck d0 = 0›); first | omega | (have q_ := lc_hello (Decidable.not_not.1 ‹¬ ¬ lCheck d0 = 0›) (by assumption); omega) | (have q_ := start_of (Decidable.not_not.1 ‹¬ ¬ lCheck d0 = 0›) (by assumption) ‹d0.2.2.2.2.1[k]? = some _›; omega) | (have q_ := ship_nums (Decidable.not_not.1 ‹¬ ¬ lCheck d0 = 0›) (by assumption); omega) | (have q_ := (lc_ack (Decidable.not_not.1 ‹¬ ¬ lCheck d0 = 0›) (by omega) (by omega)).1.1; omega) | (have q_ := cEnc_len (comm_of (Decidable.not_not.1 ‹¬ ¬ lCheck d0 = 0›) (by assumption) ‹d0.2.2.2.2.2.2.2[k]? = some _›); simp only [cEncode_is (comm_of (Decidable.not_not.1 ‹¬ ¬ lCheck d0 = 0›) (by assumption) ‹d0.2.2.2.2.2.2.2[k]? = some _›)] at *; omega) | (simp only [List.length_append, List.length_cons, List.length_nil] at *; omega))) : P := h
theorem fin1_lEncode_ok {P : Prop} (h : P := by intro x_ hx_; simp only [List.mem_cons, List.not_mem_nil, or_false] at hx_; have n_ := lc_nums (Decidable.not_not.1 ‹¬ ¬ lCheck d0 = 0›); first | omega | (have q_ := lc_hello (Decidable.not_not.1 ‹¬ ¬ lCheck d0 = 0›) (by assumption); omega) | (have q_ := start_of (Decidable.not_not.1 ‹¬ ¬ lCheck d0 = 0›) (by assumption) ‹d0.2.2.2.2.1[k]? = some _›; omega) | (have q_ := ship_nums (Decidable.not_not.1 ‹¬ ¬ lCheck d0 = 0›) (by assumption); omega) | (have q_ := (lc_ack (Decidable.not_not.1 ‹¬ ¬ lCheck d0 = 0›) (by omega) (by omega)).1.1; omega) | (have q_ := cEnc_len (comm_of (Decidable.not_not.1 ‹¬ ¬ lCheck d0 = 0›) (by assumption) ‹d0.2.2.2.2.2.2.2[k]? = some _›); simp only [cEncode_is (comm_of (Decidable.not_not.1 ‹¬ ¬ lCheck d0 = 0›) (by assumption) ‹d0.2.2.2.2.2.2.2[k]? = some _›)] at *; omega) | (simp only [List.length_append, List.length_cons, List.length_nil] at *; omega)) : P := h
theorem lEncode_ok (W : World) {v0 : List Value} {d0 : DMessage} (h0 : Rd TMessage (wm W) v0 d0) : CallR Try.prog 11 [.agg v0.toArray] W (mnil) (fun v m' => ∃ (s0 : Value), v = .tuple #[s0, .int .i64 ((lEncode d0).2)] ∧ Ow (.sl .byte) m' [s0] ((lEncode d0).1)) := by
  obtain ⟨p0_A4, p0_c4, p0_A7, p0_c7, rfl, p0_0, p0_1, p0_2, p0_3, p0_4, p0_5, p0_6, p0_7⟩ := open_Message (x0 := d0.1) (x1 := d0.2.1) (x2 := d0.2.2.1) (x3 := d0.2.2.2.1) (x4 := d0.2.2.2.2.1) (x5 := d0.2.2.2.2.2.1) (x6 := d0.2.2.2.2.2.2.1) (x7 := d0.2.2.2.2.2.2.2) h0
  simp only [inK] at p0_0
  simp only [inK] at p0_1
  simp only [inK] at p0_2
  simp only [inK] at p0_3
  have p0_r4 := Rd.room p0_4
  simp only [inK] at p0_5
  simp only [inK] at p0_6
  have p0_r7 := Rd.room p0_7
  refine CallR.ofA (n := 97) Try.func11 rfl rfl rfl ?_
  refine VC.rs ?_
  refine VO.box (cs := [Value.int .i64 (d0.1), Value.int .i64 (d0.2.1), Value.int .u8 (d0.2.2.1), Value.int .i64 (d0.2.2.2.1), Value.slice p0_A4 (d0.2.2.2.2.1.length) (p0_c4), Value.int .i64 (d0.2.2.2.2.2.1), Value.int .i64 (d0.2.2.2.2.2.2.1), Value.slice p0_A7 (d0.2.2.2.2.2.2.2.length) (p0_c7)]) 102 rfl rfl rfl (fun g1 => ?_)
  refine VO.as ?_
  refine VO.as ?_
  refine VO.k4 0 1 2 3 ?_
  refine VC.seq ?_
  refine VC.rs ?_
  refine VO.y rfl (.ldA 102 rfl tk26 rfl (cellsAt_one rfl rfl)) ?_
  refine VO.callN 103 rfl fnOk13 rfl (fun W hW => lCheck_ok W (Rd.mono h0 (hW.at (i := 0) rfl))) (fun v3 m3 hv3 => ?_)
  subst hv3
  have hfa4 := lCheck_range d0
  refine VO.as ?_
  refine VO.k5 0 1 2 3 4 ?_
  refine VC.rs ?_
  refine VO.mv ?_
  refine VO.y rfl (.neq rfl rfl) ?_
  refine VO.keep [102, 0] [(102, mone g1 (.cells [Value.int .i64 (d0.1), Value.int .i64 (d0.2.1), Value.int .u8 (d0.2.2.1), Value.int .i64 (d0.2.2.2.1), Value.slice p0_A4 (d0.2.2.2.2.1.length) (p0_c4), Value.int .i64 (d0.2.2.2.2.2.1), Value.int .i64 (d0.2.2.2.2.2.2.1), Value.slice p0_A7 (d0.2.2.2.2.2.2.2.length) (p0_c7)].toArray 26 (0, 0))), (0, wm W)] (by kernel_rfl) ?_
  refine VO.k6 0 1 2 3 4 16 ?_
  refine VC.cond rfl (fun hc5 => ?_) (fun hc5 => ?_)
  · -- T
    refine VC.rs ?_
    refine VO.mv ?_
    refine VO.as ?_
    refine VO.as ?_
    refine VO.k6 0 1 2 3 4 16 ?_
    refine VC.ret ?_
    refine outR ?_
    refine ⟨_, _, res_run (rs := [.tmp 2, .tmp 3]) rfl (.tmp rfl (.tmp rfl .nil)), fun W_ hI => out_of (l := []) hI [] rfl rfl (mle_refl _) (fun hS_ => ?_)⟩
    dsimp only [packV]
    have he0 : ((lEncode d0).1 : Ty.Den (.sl .byte)) = [] := by first | rfl | (first | (rw [lEncode_bad (by assumption)]; done) | (rw [lEncode_hello (Decidable.not_not.1 ‹¬ ¬ lCheck d0 = 0›) (by assumption), hb, List.take_of_length_le (by omega)]; done) | (rw [lEncode_ship (Decidable.not_not.1 ‹¬ ¬ lCheck d0 = 0›) (by assumption) (by assumption), hb, List.take_of_length_le (by omega)]; done) | (rw [lEncode_ack (Decidable.not_not.1 ‹¬ ¬ lCheck d0 = 0›) (by omega) (by omega)]; simp [putAll]; done))
    refine ⟨Value.slice none (0) (0), ?_, ?_⟩
    rotate_left
    · rw [he0]; exact (Ow.nil _ _)
    all_goals (first | rfl | (first | (rw [lEncode_bad (by assumption)] <;> rfl) | (rw [lEncode_hello (Decidable.not_not.1 ‹¬ ¬ lCheck d0 = 0›) (by assumption)] <;> rfl) | (rw [lEncode_ship (Decidable.not_not.1 ‹¬ ¬ lCheck d0 = 0›) (by assumption) (by assumption)] <;> rfl) | (rw [lEncode_ack (Decidable.not_not.1 ‹¬ ¬ lCheck d0 = 0›) (by omega) (by omega)] <;> rfl)))
  · -- F
    refine VC.skip ?_
    refine outN ?_
    refine VC.rs ?_
    refine VO.alloc 107 rfl tz30 (fun g6 => ?_)
    refine VO.k7 0 1 2 3 4 5 16 ?_
    refine VC.rs ?_
    refine VO.y rfl (.mkf rfl) ?_
    refine VO.as ?_
    refine VO.k8 0 1 2 3 4 5 6 16 ?_
    refine VC.rs ?_
    refine VO.mv ?_
    refine VO.y rfl (.fa rfl tst26 rfl) ?_
    refine VO.y rfl (.ld1 102 rfl tk3 rfl (cellsAt_one rfl rfl)) ?_
    refine VO.y rfl (.fa rfl tst26 rfl) ?_
    refine VO.y rfl (.ld1 102 rfl tk3 rfl (cellsAt_one rfl rfl)) ?_
    refine VO.bsl (cs := [Value.int .i64 (d0.1), Value.int .i64 (d0.2.1)]) 109 rfl rfl tsl60 tz3 rfl rfl (fun g8 => ?_)
    have ho11 : OwnL (.int .i64) (mone g8 (.cells [Value.int .i64 (d0.1), Value.int .i64 (d0.2.1)].toArray 3 (0, 0))) mnil (Value.slice (some ⟨g8, 0, none⟩) (2) (2)) [d0.1, d0.2.1] := OwnL.lit 2 (All2c.cons (c1 := [Value.int .i64 (d0.1)]) (show Rd (.int .i64) _ [_] _ from ⟨rfl, by simp only [inK]; (exact fin0_lEncode_ok)⟩) (All2c.cons (c1 := [Value.int .i64 (d0.2.1)]) (show Rd (.int .i64) _ [_] _ from ⟨rfl, by simp only [inK]; (exact fin0_lEncode_ok)⟩) All2c.nil)) rfl rfl
    refine VO.gather (l := [mone g6 (.cells [Value.slice none (0) (0)].toArray 30 (0, 0))]) 112 [107] rfl (fun hg12 => ?_)
    have ho12 : Ow (.ptr TBuf) (muns [mone g6 (.cells [Value.slice none (0) (0)].toArray 30 (0, 0))]) [.pointer (some ⟨g6, 0, none⟩)] (g6, []) := (mkP_Buf [] (Seps.nilAt 1 hg12) (Ow.nil _ _))
    refine VO.callV 112 rfl rfl fnOk31 rfl rfl (fun W hW => lput_ok W (hW.at (i := 112) rfl) (OwnL.rd ho11 (hW.out (i := 112) (j := 109) rfl rfl) (mle_nil _)) ho12 (by exact fin1_lEncode_ok) (by exact fin0_lEncode_ok)) (fun v10 m10 hv10 => ?_)
    obtain ⟨rfl, w10_1⟩ := hv10
    have hfa13 := (putAll_len (l := ([d0.1, d0.2.1])) (by intro x_ hx_; simp only [List.mem_cons, List.not_mem_nil, or_false] at hx_; omega))
    refine VO.keep [112, 102, 0] [(112, m10), (102, mone g1 (.cells [Value.int .i64 (d0.1), Value.int .i64 (d0.2.1), Value.int .u8 (d0.2.2.1), Value.int .i64 (d0.2.2.2.1), Value.slice p0_A4 (d0.2.2.2.2.1.length) (p0_c4), Value.int .i64 (d0.2.2.2.2.2.1), Value.int .i64 (d0.2.2.2.2.2.2.1), Value.slice p0_A7 (d0.2.2.2.2.2.2.2.length) (p0_c7)].toArray 26 (0, 0))), (0, wm W)] (by kernel_rfl) ?_
    refine VO.k8 0 1 2 3 4 5 6 16 ?_
    refine VC.seq ?_
    refine VC.rs ?_
    refine VO.y rfl (.fa rfl tst26 rfl) ?_
    refine VO.y rfl (.ld1 102 rfl tk3 rfl (cellsAt_one rfl rfl)) ?_
    refine VO.k9 0 1 2 3 4 5 6 16 27 ?_
    refine VC.block ?_
    refine VC.rs ?_
    refine VO.y rfl (.eql rfl rfl) ?_
    refine VO.as ?_
    refine VO.k10 0 1 2 3 4 5 6 16 27 28 ?_
    refine VC.cond rfl (fun hc14 => ?_) (fun hc14 => ?_)
    · -- FT
      refine VC.rs ?_
      refine VO.mv ?_
      refine VO.y rfl (.fa rfl tst26 rfl) ?_
      refine VO.y rfl (.ld1 102 rfl tk22 rfl (cellsAt_one rfl rfl)) ?_
      refine VO.y rfl (.cvI rfl ⟨_, Try.underlying22⟩ Try.underlying3 (IntWalk.i64_in _ (by exact fin0_lEncode_ok))) ?_
      refine VO.y rfl (.fa rfl tst26 rfl) ?_
      refine VO.y rfl (.ld1 102 rfl tk3 rfl (cellsAt_one rfl rfl)) ?_
      refine VO.y rfl (.fa rfl tst26 rfl) ?_
      refine VO.y rfl (.ld1 102 rfl tk23 rfl (cellsAt_one rfl rfl)) ?_
      refine VO.y rfl (.lenS rfl tsl23) ?_
      refine VO.bsl (cs := [Value.int .i64 (d0.2.2.1), Value.int .i64 (d0.2.2.2.1), Value.int .i64 (((d0.2.2.2.2.1.length : Nat) : Int))]) 116 rfl rfl tsl60 tz3 rfl rfl (fun g15 => ?_)
      have ho18 : OwnL (.int .i64) (mone g15 (.cells [Value.int .i64 (d0.2.2.1), Value.int .i64 (d0.2.2.2.1), Value.int .i64 (((d0.2.2.2.2.1.length : Nat) : Int))].toArray 3 (0, 0))) mnil (Value.slice (some ⟨g15, 0, none⟩) (3) (3)) [d0.2.2.1, d0.2.2.2.1, ((d0.2.2.2.2.1.length : Nat) : Int)] := OwnL.lit 3 (All2c.cons (c1 := [Value.int .i64 (d0.2.2.1)]) (show Rd (.int .i64) _ [_] _ from ⟨rfl, by simp only [inK]; (exact fin0_lEncode_ok)⟩) (All2c.cons (c1 := [Value.int .i64 (d0.2.2.2.1)]) (show Rd (.int .i64) _ [_] _ from ⟨rfl, by simp only [inK]; (exact fin0_lEncode_ok)⟩) (All2c.cons (c1 := [Value.int .i64 (((d0.2.2.2.2.1.length : Nat) : Int))]) (show Rd (.int .i64) _ [_] _ from ⟨rfl, by simp only [inK]; (exact fin0_lEncode_ok)⟩) All2c.nil))) rfl rfl
      refine VO.callV 112 rfl rfl fnOk31 rfl rfl (fun W hW => lput_ok W (hW.at (i := 112) rfl) (OwnL.rd ho18 (hW.out (i := 112) (j := 116) rfl rfl) (mle_nil _)) w10_1 (by exact fin1_lEncode_ok) (by exact fin0_lEncode_ok)) (fun v17 m17 hv17 => ?_)
      obtain ⟨rfl, w17_1⟩ := hv17
      have hfa19 := (putAll_len (l := ([d0.2.2.1, d0.2.2.2.1, ((d0.2.2.2.2.1.length : Nat) : Int)])) (by intro x_ hx_; simp only [List.mem_cons, List.not_mem_nil, or_false] at hx_; omega))
      refine VO.keep [112, 102, 0] [(112, m17), (102, mone g1 (.cells [Value.int .i64 (d0.1), Value.int .i64 (d0.2.1), Value.int .u8 (d0.2.2.1), Value.int .i64 (d0.2.2.2.1), Value.slice p0_A4 (d0.2.2.2.2.1.length) (p0_c4), Value.int .i64 (d0.2.2.2.2.2.1), Value.int .i64 (d0.2.2.2.2.2.2.1), Value.slice p0_A7 (d0.2.2.2.2.2.2.2.length) (p0_c7)].toArray 26 (0, 0))), (0, wm W)] (by kernel_rfl) ?_
      refine VO.k10 0 1 2 3 4 5 6 16 27 28 ?_
      refine VC.rs ?_
      refine VO.y rfl (.fa rfl tst26 rfl) ?_
      refine VO.y rfl (.ld1 102 rfl tk23 rfl (cellsAt_one rfl rfl)) ?_
      refine VO.y rfl (.lenS rfl tsl23) ?_
      refine VO.mv ?_
      refine VO.k13 0 1 2 3 4 5 6 16 27 28 42 43 44 ?_
      refine VC.block ?_
      refine VC.loop (G := Nat × DBuf × Mem) (fun g => [(44, Value.int .i64 ((((g.1) : Nat) : Int))), (0, Value.agg [Value.int .i64 (d0.1), Value.int .i64 (d0.2.1), Value.int .u8 (d0.2.2.1), Value.int .i64 (d0.2.2.2.1), Value.slice p0_A4 (d0.2.2.2.2.1.length) (p0_c4), Value.int .i64 (d0.2.2.2.2.2.1), Value.int .i64 (d0.2.2.2.2.2.2.1), Value.slice p0_A7 (d0.2.2.2.2.2.2.2.length) (p0_c7)].toArray), (1, Value.pointer (some ⟨g1, 0, none⟩)), (2, Value.slice none (0) (0)), (3, Value.int .i64 (0)), (4, Value.int .i64 (lCheck d0)), (5, Value.pointer (some ⟨g6, 0, none⟩)), (6, Value.func (.func 31) #[] #[Value.pointer (some ⟨g6, 0, none⟩)]), (16, Value.bool (decide (¬ (lCheck d0) = 0))), (27, Value.int .i64 (d0.1)), (28, Value.bool (decide (d0.1 = 1))), (42, Value.slice p0_A4 (d0.2.2.2.2.1.length) (p0_c4)), (43, Value.int .i64 (((d0.2.2.2.2.1.length : Nat) : Int)))]) (fun g => [(112, (g.2.2)), (102, mone g1 (.cells [Value.int .i64 (d0.1), Value.int .i64 (d0.2.1), Value.int .u8 (d0.2.2.1), Value.int .i64 (d0.2.2.2.1), Value.slice p0_A4 (d0.2.2.2.2.1.length) (p0_c4), Value.int .i64 (d0.2.2.2.2.2.1), Value.int .i64 (d0.2.2.2.2.2.2.1), Value.slice p0_A7 (d0.2.2.2.2.2.2.2.length) (p0_c7)].toArray 26 (0, 0))), (0, wm W)]) (fun g => ((g.1) ≤ d0.2.2.2.2.1.length) ∧ ((g.2.1) = lHd d0 ++ sEnc (d0.2.2.2.2.1.take (g.1))) ∧ (Ow (.ptr TBuf) (g.2.2) [.pointer (some ⟨g6, 0, none⟩)] (g6, (g.2.1)))) (fun g => d0.2.2.2.2.1.length - (g.1)) (0, ([] ++ putAll ([d0.1, d0.2.1])) ++ putAll ([d0.2.2.1, d0.2.2.2.1, ((d0.2.2.2.2.1.length : Nat) : Int)]), m17) (⟨by omega, by (simp [putAll, lHd, sEnc]), w17_1⟩) ⟨⟨rfl, rfl, rfl, rfl, rfl, rfl, rfl, rfl, rfl, rfl, rfl, rfl, rfl, trivial⟩, fun _ h => h.sub [112, 102, 0]⟩ ?_
      rintro ⟨k, b, b_m⟩ ⟨hk, hb, h_b⟩
      replace hk : k ≤ d0.2.2.2.2.1.length := hk
      replace hb : b = lHd d0 ++ sEnc (d0.2.2.2.2.1.take k) := hb
      replace h_b : Ow (.ptr TBuf) b_m [.pointer (some ⟨g6, 0, none⟩)] (g6, b) := h_b
      show VC _ _ _ _ _ [(44, Value.int .i64 (((k : Nat) : Int))), (0, Value.agg [Value.int .i64 (d0.1), Value.int .i64 (d0.2.1), Value.int .u8 (d0.2.2.1), Value.int .i64 (d0.2.2.2.1), Value.slice p0_A4 (d0.2.2.2.2.1.length) (p0_c4), Value.int .i64 (d0.2.2.2.2.2.1), Value.int .i64 (d0.2.2.2.2.2.2.1), Value.slice p0_A7 (d0.2.2.2.2.2.2.2.length) (p0_c7)].toArray), (1, Value.pointer (some ⟨g1, 0, none⟩)), (2, Value.slice none (0) (0)), (3, Value.int .i64 (0)), (4, Value.int .i64 (lCheck d0)), (5, Value.pointer (some ⟨g6, 0, none⟩)), (6, Value.func (.func 31) #[] #[Value.pointer (some ⟨g6, 0, none⟩)]), (16, Value.bool (decide (¬ (lCheck d0) = 0))), (27, Value.int .i64 (d0.1)), (28, Value.bool (decide (d0.1 = 1))), (42, Value.slice p0_A4 (d0.2.2.2.2.1.length) (p0_c4)), (43, Value.int .i64 (((d0.2.2.2.2.1.length : Nat) : Int)))] [(112, b_m), (102, mone g1 (.cells [Value.int .i64 (d0.1), Value.int .i64 (d0.2.1), Value.int .u8 (d0.2.2.1), Value.int .i64 (d0.2.2.2.1), Value.slice p0_A4 (d0.2.2.2.2.1.length) (p0_c4), Value.int .i64 (d0.2.2.2.2.2.1), Value.int .i64 (d0.2.2.2.2.2.2.1), Value.slice p0_A7 (d0.2.2.2.2.2.2.2.length) (p0_c7)].toArray 26 (0, 0))), (0, wm W)]
      have hlb := hd_room (Decidable.not_not.1 ‹¬ ¬ lCheck d0 = 0›) (by assumption) hb
      have hln := (lc_hello (Decidable.not_not.1 ‹¬ ¬ lCheck d0 = 0›) (by assumption)).2.2.1
      refine VC.rs ?_
      refine VO.y rfl (.lss rfl rfl) ?_
      refine VO.k14 0 1 2 3 4 5 6 16 27 28 42 43 44 45 ?_
      refine VC.seq ?_
      refine VC.cond rfl (fun hc20 => ?_) (fun hc20 => ?_)
      · -- FTT
        refine VC.skip ?_
        refine outN ?_
        refine VC.seq ?_
        refine VC.block ?_
        refine VC.rs ?_
        obtain ⟨x21, hx21⟩ : ∃ z_, (d0.2.2.2.2.1)[k]? = some z_ := ⟨_, List.getElem?_eq_getElem (by exact fin0_lEncode_ok)⟩
        obtain ⟨gg21, oo21, ec21, ea21, hce21, hre21⟩ := p0_4.elem hx21
        cases ea21
        obtain ⟨rfl, q21_0, q21_1⟩ := open_Start (x0 := x21.1) (x1 := x21.2) hre21
        simp only [inK] at q21_0
        simp only [inK] at q21_1
        refine VO.y rfl (.ixI k rfl rfl tsl23 rfl (by exact fin0_lEncode_ok)) ?_
        refine VO.y rfl (.ldA 0 rfl tk57 rfl hce21) ?_
        refine VO.alloc 123 rfl tz57 (fun g22 => ?_)
        refine VO.store (k := 2) (c' := [Value.int .i64 (x21.1), Value.int .i64 (x21.2)]) 123 rfl rfl (.inl tk57) rfl rfl rfl rfl rfl ?_
        refine VO.keep [123, 112, 102, 0] [(123, mone g22 (.cells [Value.int .i64 (x21.1), Value.int .i64 (x21.2)].toArray 57 (0, 0))), (112, b_m), (102, mone g1 (.cells [Value.int .i64 (d0.1), Value.int .i64 (d0.2.1), Value.int .u8 (d0.2.2.1), Value.int .i64 (d0.2.2.2.1), Value.slice (some ⟨gg21, oo21, none⟩) (d0.2.2.2.2.1.length) (p0_c4), Value.int .i64 (d0.2.2.2.2.2.1), Value.int .i64 (d0.2.2.2.2.2.2.1), Value.slice p0_A7 (d0.2.2.2.2.2.2.2.length) (p0_c7)].toArray 26 (0, 0))), (0, wm W)] (by kernel_rfl) ?_
        refine VO.k15 0 1 2 3 4 5 6 8 16 27 28 42 43 44 45 ?_
        refine VC.reg ?_
        refine VO.mv ?_
        refine VO.y rfl (.fa rfl tst57 rfl) ?_
        refine VO.y rfl (.ld1 123 rfl tk3 rfl (cellsAt_one rfl rfl)) ?_
        refine VO.y rfl (.fa rfl tst57 rfl) ?_
        refine VO.y rfl (.ld1 123 rfl tk3 rfl (cellsAt_one rfl rfl)) ?_
        refine VO.bsl (cs := [Value.int .i64 (x21.1), Value.int .i64 (x21.2)]) 125 rfl rfl tsl60 tz3 rfl rfl (fun g24 => ?_)
        have ho27 : OwnL (.int .i64) (mone g24 (.cells [Value.int .i64 (x21.1), Value.int .i64 (x21.2)].toArray 3 (0, 0))) mnil (Value.slice (some ⟨g24, 0, none⟩) (2) (2)) [x21.1, x21.2] := OwnL.lit 2 (All2c.cons (c1 := [Value.int .i64 (x21.1)]) (show Rd (.int .i64) _ [_] _ from ⟨rfl, by simp only [inK]; (exact fin0_lEncode_ok)⟩) (All2c.cons (c1 := [Value.int .i64 (x21.2)]) (show Rd (.int .i64) _ [_] _ from ⟨rfl, by simp only [inK]; (exact fin0_lEncode_ok)⟩) All2c.nil)) rfl rfl
        refine VO.callV 112 rfl rfl fnOk31 rfl rfl (fun W hW => lput_ok W (hW.at (i := 112) rfl) (OwnL.rd ho27 (hW.out (i := 112) (j := 125) rfl rfl) (mle_nil _)) h_b (by exact fin1_lEncode_ok) (by exact fin0_lEncode_ok)) (fun v26 m26 hv26 => ?_)
        obtain ⟨rfl, w26_1⟩ := hv26
        have hfa28 := (putAll_len (l := ([x21.1, x21.2])) (by intro x_ hx_; simp only [List.mem_cons, List.not_mem_nil, or_false] at hx_; omega))
        refine VO.k15 0 1 2 3 4 5 6 8 16 27 28 42 43 44 45 ?_
        refine outBN ?_
        refine outN ?_
        refine VC.reg ?_
        refine VO.y rfl (.add (c := ((k + 1 : Nat) : Int)) rfl rfl (by omega) ⟨by exact fin0_lEncode_ok, by exact fin0_lEncode_ok⟩) ?_
        refine VO.mv ?_
        refine VO.k15 0 1 2 3 4 5 6 8 16 27 28 42 43 44 45 ?_
        exact outN ⟨⟨k + 1, b ++ putAll ([x21.1, x21.2]), m26⟩, ⟨by omega, by (rw [hb, take_one ‹d0.2.2.2.2.1[k]? = some _›, sEnc_app]; simp [putAll, sEnc]), w26_1⟩, by exact fin0_lEncode_ok, ⟨⟨rfl, rfl, rfl, rfl, rfl, rfl, rfl, rfl, rfl, rfl, rfl, rfl, rfl, trivial⟩, fun _ h => Inv.sub h [112, 102, 0]⟩⟩
      · -- FTF
        refine VC.exit ?_
        refine outE ?_
        refine outE ?_
        refine outBB ?_
        refine outBN ?_
        refine outN ?_
        refine VC.rs ?_
        obtain ⟨q29_E, q29_A0, q29_c0, q29_n0, _, q29_S, q29_0⟩ := openP_Buf (x0 := b) h_b
        have q29_r0 := Rd.room (q29_0.rd (mle_refl _))
        refine VO.inv _ (fun _ h => h.parts (i := 112) rfl q29_S [131, 130]) ?_
        refine VO.y rfl (.ld1 131 rfl tk30 rfl (cellsAt_one rfl rfl)) ?_
        refine VO.as ?_
        refine VO.as ?_
        refine VO.keep [131, 130, 102, 0] [(131, mone g6 (.cells [Value.slice q29_A0 (b.length) (q29_c0)].toArray q29_E (0, 0))), (130, q29_n0), (102, mone g1 (.cells [Value.int .i64 (d0.1), Value.int .i64 (d0.2.1), Value.int .u8 (d0.2.2.1), Value.int .i64 (d0.2.2.2.1), Value.slice p0_A4 (d0.2.2.2.2.1.length) (p0_c4), Value.int .i64 (d0.2.2.2.2.2.1), Value.int .i64 (d0.2.2.2.2.2.2.1), Value.slice p0_A7 (d0.2.2.2.2.2.2.2.length) (p0_c7)].toArray 26 (0, 0))), (0, wm W)] (by kernel_rfl) ?_
        refine VO.k14 0 1 2 3 4 5 6 16 27 28 42 43 44 45 ?_
        refine VC.ret ?_
        refine ⟨_, _, res_run (rs := [.tmp 2, .tmp 3]) rfl (.tmp rfl (.tmp rfl .nil)), fun W_ hI => out_of (l := [q29_n0]) hI [130] rfl rfl (mle_refl _) (fun hS_ => ?_)⟩
        dsimp only [packV]
        have he0 : ((lEncode d0).1 : Ty.Den (.sl .byte)) = b := by first | rfl | (first | (rw [lEncode_bad (by assumption)]; done) | (rw [lEncode_hello (Decidable.not_not.1 ‹¬ ¬ lCheck d0 = 0›) (by assumption), hb, List.take_of_length_le (by omega)]; done) | (rw [lEncode_ship (Decidable.not_not.1 ‹¬ ¬ lCheck d0 = 0›) (by assumption) (by assumption), hb, List.take_of_length_le (by omega)]; done) | (rw [lEncode_ack (Decidable.not_not.1 ‹¬ ¬ lCheck d0 = 0›) (by omega) (by omega)]; simp [putAll]; done))
        refine ⟨Value.slice q29_A0 (b.length) (q29_c0), ?_, ?_⟩
        rotate_left
        · rw [he0]; exact (Ow.up (OwnL.ow (Ow.ownl q29_0 rfl mnil) rfl) (hS_.1 _ (.head _)))
        all_goals (first | rfl | (first | (rw [lEncode_bad (by assumption)] <;> rfl) | (rw [lEncode_hello (Decidable.not_not.1 ‹¬ ¬ lCheck d0 = 0›) (by assumption)] <;> rfl) | (rw [lEncode_ship (Decidable.not_not.1 ‹¬ ¬ lCheck d0 = 0›) (by assumption) (by assumption)] <;> rfl) | (rw [lEncode_ack (Decidable.not_not.1 ‹¬ ¬ lCheck d0 = 0›) (by omega) (by omega)] <;> rfl)))
    · -- FF
      refine VC.rs ?_
      refine VO.y rfl (.eql rfl rfl) ?_
      refine VO.as ?_
      refine VO.keep [112, 102, 0] [(112, m10), (102, mone g1 (.cells [Value.int .i64 (d0.1), Value.int .i64 (d0.2.1), Value.int .u8 (d0.2.2.1), Value.int .i64 (d0.2.2.2.1), Value.slice p0_A4 (d0.2.2.2.2.1.length) (p0_c4), Value.int .i64 (d0.2.2.2.2.2.1), Value.int .i64 (d0.2.2.2.2.2.2.1), Value.slice p0_A7 (d0.2.2.2.2.2.2.2.length) (p0_c7)].toArray 26 (0, 0))), (0, wm W)] (by kernel_rfl) ?_
      refine VO.k11 0 1 2 3 4 5 6 16 27 28 56 ?_
      refine VC.cond rfl (fun hc32 => ?_) (fun hc32 => ?_)
      · -- FFT
        refine VC.rs ?_
        refine VO.mv ?_
        refine VO.y rfl (.fa rfl tst26 rfl) ?_
        refine VO.y rfl (.ld1 102 rfl tk3 rfl (cellsAt_one rfl rfl)) ?_
        refine VO.y rfl (.fa rfl tst26 rfl) ?_
        refine VO.y rfl (.ld1 102 rfl tk3 rfl (cellsAt_one rfl rfl)) ?_
        refine VO.y rfl (.fa rfl tst26 rfl) ?_
        refine VO.y rfl (.ld1 102 rfl tk24 rfl (cellsAt_one rfl rfl)) ?_
        refine VO.y rfl (.lenS rfl tsl24) ?_
        refine VO.bsl (cs := [Value.int .i64 (d0.2.2.2.2.2.1), Value.int .i64 (d0.2.2.2.2.2.2.1), Value.int .i64 (((d0.2.2.2.2.2.2.2.length : Nat) : Int))]) 134 rfl rfl tsl60 tz3 rfl rfl (fun g33 => ?_)
        have ho36 : OwnL (.int .i64) (mone g33 (.cells [Value.int .i64 (d0.2.2.2.2.2.1), Value.int .i64 (d0.2.2.2.2.2.2.1), Value.int .i64 (((d0.2.2.2.2.2.2.2.length : Nat) : Int))].toArray 3 (0, 0))) mnil (Value.slice (some ⟨g33, 0, none⟩) (3) (3)) [d0.2.2.2.2.2.1, d0.2.2.2.2.2.2.1, ((d0.2.2.2.2.2.2.2.length : Nat) : Int)] := OwnL.lit 3 (All2c.cons (c1 := [Value.int .i64 (d0.2.2.2.2.2.1)]) (show Rd (.int .i64) _ [_] _ from ⟨rfl, by simp only [inK]; (exact fin0_lEncode_ok)⟩) (All2c.cons (c1 := [Value.int .i64 (d0.2.2.2.2.2.2.1)]) (show Rd (.int .i64) _ [_] _ from ⟨rfl, by simp only [inK]; (exact fin0_lEncode_ok)⟩) (All2c.cons (c1 := [Value.int .i64 (((d0.2.2.2.2.2.2.2.length : Nat) : Int))]) (show Rd (.int .i64) _ [_] _ from ⟨rfl, by simp only [inK]; (exact fin0_lEncode_ok)⟩) All2c.nil))) rfl rfl
        refine VO.callV 112 rfl rfl fnOk31 rfl rfl (fun W hW => lput_ok W (hW.at (i := 112) rfl) (OwnL.rd ho36 (hW.out (i := 112) (j := 134) rfl rfl) (mle_nil _)) w10_1 (by exact fin1_lEncode_ok) (by exact fin0_lEncode_ok)) (fun v35 m35 hv35 => ?_)
        obtain ⟨rfl, w35_1⟩ := hv35
        have hfa37 := (putAll_len (l := ([d0.2.2.2.2.2.1, d0.2.2.2.2.2.2.1, ((d0.2.2.2.2.2.2.2.length : Nat) : Int)])) (by intro x_ hx_; simp only [List.mem_cons, List.not_mem_nil, or_false] at hx_; omega))
        refine VO.k11 0 1 2 3 4 5 6 16 27 28 56 ?_
        refine VC.rs ?_
        refine VO.y rfl (.fa rfl tst26 rfl) ?_
        refine VO.y rfl (.ld1 102 rfl tk24 rfl (cellsAt_one rfl rfl)) ?_
        refine VO.y rfl (.lenS rfl tsl24) ?_
        refine VO.mv ?_
        refine VO.k14 0 1 2 3 4 5 6 16 27 28 56 69 70 71 ?_
        refine VC.block ?_
        refine VC.loop (G := Nat × DBuf × Mem) (fun g => [(71, Value.int .i64 ((((g.1) : Nat) : Int))), (0, Value.agg [Value.int .i64 (d0.1), Value.int .i64 (d0.2.1), Value.int .u8 (d0.2.2.1), Value.int .i64 (d0.2.2.2.1), Value.slice p0_A4 (d0.2.2.2.2.1.length) (p0_c4), Value.int .i64 (d0.2.2.2.2.2.1), Value.int .i64 (d0.2.2.2.2.2.2.1), Value.slice p0_A7 (d0.2.2.2.2.2.2.2.length) (p0_c7)].toArray), (1, Value.pointer (some ⟨g1, 0, none⟩)), (2, Value.slice none (0) (0)), (3, Value.int .i64 (0)), (4, Value.int .i64 (lCheck d0)), (5, Value.pointer (some ⟨g6, 0, none⟩)), (6, Value.func (.func 31) #[] #[Value.pointer (some ⟨g6, 0, none⟩)]), (16, Value.bool (decide (¬ (lCheck d0) = 0))), (27, Value.int .i64 (d0.1)), (28, Value.bool (decide (d0.1 = 1))), (56, Value.bool (decide (d0.1 = 2))), (69, Value.slice p0_A7 (d0.2.2.2.2.2.2.2.length) (p0_c7)), (70, Value.int .i64 (((d0.2.2.2.2.2.2.2.length : Nat) : Int)))]) (fun g => [(112, (g.2.2)), (102, mone g1 (.cells [Value.int .i64 (d0.1), Value.int .i64 (d0.2.1), Value.int .u8 (d0.2.2.1), Value.int .i64 (d0.2.2.2.1), Value.slice p0_A4 (d0.2.2.2.2.1.length) (p0_c4), Value.int .i64 (d0.2.2.2.2.2.1), Value.int .i64 (d0.2.2.2.2.2.2.1), Value.slice p0_A7 (d0.2.2.2.2.2.2.2.length) (p0_c7)].toArray 26 (0, 0))), (0, wm W)]) (fun g => ((g.1) ≤ d0.2.2.2.2.2.2.2.length) ∧ ((g.2.1) = lHs d0 ++ csEnc (d0.2.2.2.2.2.2.2.take (g.1))) ∧ (Ow (.ptr TBuf) (g.2.2) [.pointer (some ⟨g6, 0, none⟩)] (g6, (g.2.1)))) (fun g => d0.2.2.2.2.2.2.2.length - (g.1)) (0, ([] ++ putAll ([d0.1, d0.2.1])) ++ putAll ([d0.2.2.2.2.2.1, d0.2.2.2.2.2.2.1, ((d0.2.2.2.2.2.2.2.length : Nat) : Int)]), m35) (⟨by omega, by (simp [putAll, lHs, csEnc]), w35_1⟩) ⟨⟨rfl, rfl, rfl, rfl, rfl, rfl, rfl, rfl, rfl, rfl, rfl, rfl, rfl, rfl, trivial⟩, fun _ h => h.sub [112, 102, 0]⟩ ?_
        rintro ⟨k, b, b_m⟩ ⟨hk, hb, h_b⟩
        replace hk : k ≤ d0.2.2.2.2.2.2.2.length := hk
        replace hb : b = lHs d0 ++ csEnc (d0.2.2.2.2.2.2.2.take k) := hb
        replace h_b : Ow (.ptr TBuf) b_m [.pointer (some ⟨g6, 0, none⟩)] (g6, b) := h_b
        show VC _ _ _ _ _ [(71, Value.int .i64 (((k : Nat) : Int))), (0, Value.agg [Value.int .i64 (d0.1), Value.int .i64 (d0.2.1), Value.int .u8 (d0.2.2.1), Value.int .i64 (d0.2.2.2.1), Value.slice p0_A4 (d0.2.2.2.2.1.length) (p0_c4), Value.int .i64 (d0.2.2.2.2.2.1), Value.int .i64 (d0.2.2.2.2.2.2.1), Value.slice p0_A7 (d0.2.2.2.2.2.2.2.length) (p0_c7)].toArray), (1, Value.pointer (some ⟨g1, 0, none⟩)), (2, Value.slice none (0) (0)), (3, Value.int .i64 (0)), (4, Value.int .i64 (lCheck d0)), (5, Value.pointer (some ⟨g6, 0, none⟩)), (6, Value.func (.func 31) #[] #[Value.pointer (some ⟨g6, 0, none⟩)]), (16, Value.bool (decide (¬ (lCheck d0) = 0))), (27, Value.int .i64 (d0.1)), (28, Value.bool (decide (d0.1 = 1))), (56, Value.bool (decide (d0.1 = 2))), (69, Value.slice p0_A7 (d0.2.2.2.2.2.2.2.length) (p0_c7)), (70, Value.int .i64 (((d0.2.2.2.2.2.2.2.length : Nat) : Int)))] [(112, b_m), (102, mone g1 (.cells [Value.int .i64 (d0.1), Value.int .i64 (d0.2.1), Value.int .u8 (d0.2.2.1), Value.int .i64 (d0.2.2.2.1), Value.slice p0_A4 (d0.2.2.2.2.1.length) (p0_c4), Value.int .i64 (d0.2.2.2.2.2.1), Value.int .i64 (d0.2.2.2.2.2.2.1), Value.slice p0_A7 (d0.2.2.2.2.2.2.2.length) (p0_c7)].toArray 26 (0, 0))), (0, wm W)]
        have hlb := hs_room (Decidable.not_not.1 ‹¬ ¬ lCheck d0 = 0›) (by assumption) hb
        have hln := (lCheck_ship (Decidable.not_not.1 ‹¬ ¬ lCheck d0 = 0›) (by assumption)).2.2.2.1
        refine VC.rs ?_
        refine VO.y rfl (.lss rfl rfl) ?_
        refine VO.keep [112, 102, 0] [(112, b_m), (102, mone g1 (.cells [Value.int .i64 (d0.1), Value.int .i64 (d0.2.1), Value.int .u8 (d0.2.2.1), Value.int .i64 (d0.2.2.2.1), Value.slice p0_A4 (d0.2.2.2.2.1.length) (p0_c4), Value.int .i64 (d0.2.2.2.2.2.1), Value.int .i64 (d0.2.2.2.2.2.2.1), Value.slice p0_A7 (d0.2.2.2.2.2.2.2.length) (p0_c7)].toArray 26 (0, 0))), (0, wm W)] (by kernel_rfl) ?_
        refine VO.k15 0 1 2 3 4 5 6 16 27 28 56 69 70 71 72 ?_
        refine VC.seq ?_
        refine VC.cond rfl (fun hc38 => ?_) (fun hc38 => ?_)
        · -- FFTT
          refine VC.skip ?_
          refine outN ?_
          refine VC.seq ?_
          refine VC.block ?_
          refine VC.rs ?_
          obtain ⟨x39, hx39⟩ : ∃ z_, (d0.2.2.2.2.2.2.2)[k]? = some z_ := ⟨_, List.getElem?_eq_getElem (by exact fin0_lEncode_ok)⟩
          obtain ⟨gg39, oo39, ec39, ea39, hce39, hre39⟩ := p0_7.elem hx39
          cases ea39
          obtain ⟨q39_A2, q39_c2, rfl, q39_0, q39_1, q39_2⟩ := open_Commit (x0 := x39.1) (x1 := x39.2.1) (x2 := x39.2.2) hre39
          simp only [inK] at q39_0
          simp only [inK] at q39_1
          have q39_r2 := Rd.room q39_2
          refine VO.y rfl (.ixI k rfl rfl tsl24 rfl (by exact fin0_lEncode_ok)) ?_
          refine VO.y rfl (.ldA 0 rfl tk43 rfl hce39) ?_
          refine VO.alloc 141 rfl tz43 (fun g40 => ?_)
          refine VO.store (k := 3) (c' := [Value.int .i64 (x39.1), Value.int .i64 (x39.2.1), Value.slice q39_A2 (x39.2.2.length) (q39_c2)]) 141 rfl rfl (.inl tk43) rfl rfl rfl rfl rfl ?_
          refine VO.k16 0 1 2 3 4 5 6 10 16 27 28 56 69 70 71 72 ?_
          refine VC.rs ?_
          refine VO.y rfl (.ldA 141 rfl tk43 rfl (cellsAt_one rfl rfl)) ?_
          refine VO.callN 142 rfl fnOk33 rfl (fun W hW => cEncode_ok_ W (Rd.mono hre39 (hW.at (i := 0) rfl))) (fun v42 m42 hv42 => ?_)
          obtain ⟨s42_0, rfl, f42_0⟩ := hv42
          have hfa43 := cEncode_len x39
          obtain ⟨A42_0, c42_0, eq42_0, l42_0, k42_0⟩ := f42_0.slice
          subst eq42_0
          simp only [maxLen] at k42_0
          refine VO.mv ?_
          refine VO.y rfl (.ext rfl rfl) ?_
          refine VO.y rfl (.ext rfl rfl) ?_
          refine VO.as ?_
          refine VO.as ?_
          refine VO.k17 0 1 2 3 4 5 6 10 11 16 27 28 56 69 70 71 72 ?_
          refine VC.rs ?_
          refine VO.mv ?_
          refine VO.mv ?_
          refine VO.y rfl (.lenS rfl tsl30) ?_
          refine VO.bsl (cs := [Value.int .i64 (((((cEncode x39).1).length : Nat) : Int))]) 145 rfl rfl tsl60 tz3 rfl rfl (fun g44 => ?_)
          have ho47 : OwnL (.int .i64) (mone g44 (.cells [Value.int .i64 (((((cEncode x39).1).length : Nat) : Int))].toArray 3 (0, 0))) mnil (Value.slice (some ⟨g44, 0, none⟩) (1) (1)) [((((cEncode x39).1).length : Nat) : Int)] := OwnL.lit 1 (All2c.cons (c1 := [Value.int .i64 (((((cEncode x39).1).length : Nat) : Int))]) (show Rd (.int .i64) _ [_] _ from ⟨rfl, by simp only [inK]; (exact fin0_lEncode_ok)⟩) All2c.nil) rfl rfl
          refine VO.callV 112 rfl rfl fnOk31 rfl rfl (fun W hW => lput_ok W (hW.at (i := 112) rfl) (OwnL.rd ho47 (hW.out (i := 112) (j := 145) rfl rfl) (mle_nil _)) h_b (by exact fin1_lEncode_ok) (by exact fin0_lEncode_ok)) (fun v46 m46 hv46 => ?_)
          obtain ⟨rfl, w46_1⟩ := hv46
          have hfa48 := (putAll_len (l := ([((((cEncode x39).1).length : Nat) : Int)])) (by intro x_ hx_; simp only [List.mem_cons, List.not_mem_nil, or_false] at hx_; omega))
          refine VO.keep [112, 142, 141, 102, 0] [(112, m46), (142, m42), (141, mone g40 (.cells [Value.int .i64 (x39.1), Value.int .i64 (x39.2.1), Value.slice q39_A2 (x39.2.2.length) (q39_c2)].toArray 43 (0, 0))), (102, mone g1 (.cells [Value.int .i64 (d0.1), Value.int .i64 (d0.2.1), Value.int .u8 (d0.2.2.1), Value.int .i64 (d0.2.2.2.1), Value.slice p0_A4 (d0.2.2.2.2.1.length) (p0_c4), Value.int .i64 (d0.2.2.2.2.2.1), Value.int .i64 (d0.2.2.2.2.2.2.1), Value.slice (some ⟨gg39, oo39, none⟩) (d0.2.2.2.2.2.2.2.length) (p0_c7)].toArray 26 (0, 0))), (0, wm W)] (by kernel_rfl) ?_
          refine VO.k17 0 1 2 3 4 5 6 10 11 16 27 28 56 69 70 71 72 ?_
          refine VC.reg ?_
          obtain ⟨q49_E, q49_A0, q49_c0, q49_n0, _, q49_S, q49_0⟩ := openP_Buf (x0 := b ++ putAll ([((((cEncode x39).1).length : Nat) : Int)])) w46_1
          have q49_r0 := Rd.room (q49_0.rd (mle_refl _))
          refine VO.inv _ (fun _ h => h.parts (i := 112) rfl q49_S [151, 150]) ?_
          refine VO.y rfl (.ld1 151 rfl tk30 rfl (cellsAt_one rfl rfl)) ?_
          refine VO.mv ?_
          obtain ⟨mo52, cs52, hM52, hA52, hC52⟩ := (Ow.ownl q49_0 rfl mnil)
          obtain ⟨all52, hS52, hR52⟩ := Rd.srcI (P := Try.prog) ((OwnL.rd (Ow.ownl f42_0 rfl mnil) (mle_refl _) (mle_nil _))) Try.underlying30
          refine VO.app 150 rfl rfl rfl tsl30 tz5 rfl rfl hM52 hA52 (hS52 _ 142 rfl) hR52.nice (by simp only [maxLen]; (exact fin0_lEncode_ok)) (by exact fin0_lEncode_ok) (by decide) (fun v52 m52 hN52 => ?_)
          have ho52 : OwnL .byte m52 mnil v52 ((b ++ putAll ([((((cEncode x39).1).length : Nat) : Int)])) ++ ((cEncode x39).1)) := OwnL.more hC52 hN52 (All2c.mono hR52 fun _ _ h => Rd.flat rfl h _)
          obtain ⟨A52, c52, rfl, l52, k52⟩ := ho52.slice
          simp only [maxLen] at k52
          refine VO.store (k := 1) (c' := [Value.slice A52 (((b ++ putAll ([((((cEncode x39).1).length : Nat) : Int)])) ++ ((cEncode x39).1)).length) (c52)]) 151 rfl rfl (.inr ⟨tk30, rfl⟩) rfl rfl rfl rfl rfl ?_
          refine VO.gather (l := [mone g6 (.cells [Value.slice A52 (((b ++ putAll ([((((cEncode x39).1).length : Nat) : Int)])) ++ ((cEncode x39).1)).length) (c52)].toArray q49_E (0, 0)), m52]) 153 [151, 150] rfl (fun hg53 => ?_)
          have ho53 : Ow (.ptr TBuf) (muns [mone g6 (.cells [Value.slice A52 (((b ++ putAll ([((((cEncode x39).1).length : Nat) : Int)])) ++ ((cEncode x39).1)).length) (c52)].toArray q49_E (0, 0)), m52]) [.pointer (some ⟨g6, 0, none⟩)] (g6, (b ++ putAll ([((((cEncode x39).1).length : Nat) : Int)])) ++ ((cEncode x39).1)) := (mkP_Buf ((b ++ putAll ([((((cEncode x39).1).length : Nat) : Int)])) ++ ((cEncode x39).1)) hg53 (OwnL.ow ho52 rfl))
          refine VO.k17 0 1 2 3 4 5 6 10 11 16 27 28 56 69 70 71 72 ?_
          refine outBN ?_
          refine outN ?_
          refine VC.reg ?_
          refine VO.y rfl (.add (c := ((k + 1 : Nat) : Int)) rfl rfl (by omega) ⟨by exact fin0_lEncode_ok, by exact fin0_lEncode_ok⟩) ?_
          refine VO.mv ?_
          refine VO.k17 0 1 2 3 4 5 6 10 11 16 27 28 56 69 70 71 72 ?_
          exact outN ⟨⟨k + 1, (b ++ putAll ([((((cEncode x39).1).length : Nat) : Int)])) ++ ((cEncode x39).1), muns [mone g6 (.cells [Value.slice A52 (((b ++ putAll ([((((cEncode x39).1).length : Nat) : Int)])) ++ ((cEncode x39).1)).length) (c52)].toArray q49_E (0, 0)), m52]⟩, ⟨by omega, by (rw [hb, take_one ‹d0.2.2.2.2.2.2.2[k]? = some _›, csEnc_app]; simp [putAll, csEnc, cEncode_is (comm_of (Decidable.not_not.1 ‹¬ ¬ lCheck d0 = 0›) (by assumption) ‹d0.2.2.2.2.2.2.2[k]? = some _›)]), ho53⟩, by exact fin0_lEncode_ok, ⟨⟨rfl, rfl, rfl, rfl, rfl, rfl, rfl, rfl, rfl, rfl, rfl, rfl, rfl, rfl, trivial⟩, fun _ h => Inv.sub (Inv.num h 153 112 rfl) [112, 102, 0]⟩⟩
        · -- FFTF
          refine VC.exit ?_
          refine outE ?_
          refine outE ?_
          refine outBB ?_
          refine outBN ?_
          refine outN ?_
          refine VC.rs ?_
          obtain ⟨q54_E, q54_A0, q54_c0, q54_n0, _, q54_S, q54_0⟩ := openP_Buf (x0 := b) h_b
          have q54_r0 := Rd.room (q54_0.rd (mle_refl _))
          refine VO.inv _ (fun _ h => h.parts (i := 112) rfl q54_S [156, 155]) ?_
          refine VO.y rfl (.ld1 156 rfl tk30 rfl (cellsAt_one rfl rfl)) ?_
          refine VO.as ?_
          refine VO.as ?_
          refine VO.k15 0 1 2 3 4 5 6 16 27 28 56 69 70 71 72 ?_
          refine VC.ret ?_
          refine ⟨_, _, res_run (rs := [.tmp 2, .tmp 3]) rfl (.tmp rfl (.tmp rfl .nil)), fun W_ hI => out_of (l := [q54_n0]) hI [155] rfl rfl (mle_refl _) (fun hS_ => ?_)⟩
          dsimp only [packV]
          have he0 : ((lEncode d0).1 : Ty.Den (.sl .byte)) = b := by first | rfl | (first | (rw [lEncode_bad (by assumption)]; done) | (rw [lEncode_hello (Decidable.not_not.1 ‹¬ ¬ lCheck d0 = 0›) (by assumption), hb, List.take_of_length_le (by omega)]; done) | (rw [lEncode_ship (Decidable.not_not.1 ‹¬ ¬ lCheck d0 = 0›) (by assumption) (by assumption), hb, List.take_of_length_le (by omega)]; done) | (rw [lEncode_ack (Decidable.not_not.1 ‹¬ ¬ lCheck d0 = 0›) (by omega) (by omega)]; simp [putAll]; done))
          refine ⟨Value.slice q54_A0 (b.length) (q54_c0), ?_, ?_⟩
          rotate_left
          · rw [he0]; exact (Ow.up (OwnL.ow (Ow.ownl q54_0 rfl mnil) rfl) (hS_.1 _ (.head _)))
          all_goals (first | rfl | (first | (rw [lEncode_bad (by assumption)] <;> rfl) | (rw [lEncode_hello (Decidable.not_not.1 ‹¬ ¬ lCheck d0 = 0›) (by assumption)] <;> rfl) | (rw [lEncode_ship (Decidable.not_not.1 ‹¬ ¬ lCheck d0 = 0›) (by assumption) (by assumption)] <;> rfl) | (rw [lEncode_ack (Decidable.not_not.1 ‹¬ ¬ lCheck d0 = 0›) (by omega) (by omega)] <;> rfl)))
      · -- FFF
        refine VC.rs ?_
        refine VO.y rfl (.eql rfl rfl) ?_
        refine VO.as ?_
        refine VO.k12 0 1 2 3 4 5 6 16 27 28 56 89 ?_
        refine VC.cond rfl (fun hc57 => ?_) (fun hc57 => ?_)
        · -- FFFT
          refine VC.reg ?_
          refine VO.mv ?_
          refine VO.y rfl (.fa rfl tst26 rfl) ?_
          refine VO.y rfl (.ld1 102 rfl tk3 rfl (cellsAt_one rfl rfl)) ?_
          refine VO.bsl (cs := [Value.int .i64 (d0.2.2.2.1)]) 159 rfl rfl tsl60 tz3 rfl rfl (fun g58 => ?_)
          have ho61 : OwnL (.int .i64) (mone g58 (.cells [Value.int .i64 (d0.2.2.2.1)].toArray 3 (0, 0))) mnil (Value.slice (some ⟨g58, 0, none⟩) (1) (1)) [d0.2.2.2.1] := OwnL.lit 1 (All2c.cons (c1 := [Value.int .i64 (d0.2.2.2.1)]) (show Rd (.int .i64) _ [_] _ from ⟨rfl, by simp only [inK]; (exact fin0_lEncode_ok)⟩) All2c.nil) rfl rfl
          refine VO.callV 112 rfl rfl fnOk31 rfl rfl (fun W hW => lput_ok W (hW.at (i := 112) rfl) (OwnL.rd ho61 (hW.out (i := 112) (j := 159) rfl rfl) (mle_nil _)) w10_1 (by exact fin1_lEncode_ok) (by exact fin0_lEncode_ok)) (fun v60 m60 hv60 => ?_)
          obtain ⟨rfl, w60_1⟩ := hv60
          have hfa62 := (putAll_len (l := ([d0.2.2.2.1])) (by intro x_ hx_; simp only [List.mem_cons, List.not_mem_nil, or_false] at hx_; omega))
          refine VO.k12 0 1 2 3 4 5 6 16 27 28 56 89 ?_
          refine outBN ?_
          refine outN ?_
          refine VC.rs ?_
          obtain ⟨q63_E, q63_A0, q63_c0, q63_n0, _, q63_S, q63_0⟩ := openP_Buf (x0 := ([] ++ putAll ([d0.1, d0.2.1])) ++ putAll ([d0.2.2.2.1])) w60_1
          have q63_r0 := Rd.room (q63_0.rd (mle_refl _))
          refine VO.inv _ (fun _ h => h.parts (i := 112) rfl q63_S [165, 164]) ?_
          refine VO.y rfl (.ld1 165 rfl tk30 rfl (cellsAt_one rfl rfl)) ?_
          refine VO.as ?_
          refine VO.as ?_
          refine VO.keep [165, 164, 102, 0] [(165, mone g6 (.cells [Value.slice q63_A0 ((([] ++ putAll ([d0.1, d0.2.1])) ++ putAll ([d0.2.2.2.1])).length) (q63_c0)].toArray q63_E (0, 0))), (164, q63_n0), (102, mone g1 (.cells [Value.int .i64 (d0.1), Value.int .i64 (d0.2.1), Value.int .u8 (d0.2.2.1), Value.int .i64 (d0.2.2.2.1), Value.slice p0_A4 (d0.2.2.2.2.1.length) (p0_c4), Value.int .i64 (d0.2.2.2.2.2.1), Value.int .i64 (d0.2.2.2.2.2.2.1), Value.slice p0_A7 (d0.2.2.2.2.2.2.2.length) (p0_c7)].toArray 26 (0, 0))), (0, wm W)] (by kernel_rfl) ?_
          refine VO.k12 0 1 2 3 4 5 6 16 27 28 56 89 ?_
          refine VC.ret ?_
          refine ⟨_, _, res_run (rs := [.tmp 2, .tmp 3]) rfl (.tmp rfl (.tmp rfl .nil)), fun W_ hI => out_of (l := [q63_n0]) hI [164] rfl rfl (mle_refl _) (fun hS_ => ?_)⟩
          dsimp only [packV]
          have he0 : ((lEncode d0).1 : Ty.Den (.sl .byte)) = ([] ++ putAll ([d0.1, d0.2.1])) ++ putAll ([d0.2.2.2.1]) := by first | rfl | (first | (rw [lEncode_bad (by assumption)]; done) | (rw [lEncode_hello (Decidable.not_not.1 ‹¬ ¬ lCheck d0 = 0›) (by assumption), hb, List.take_of_length_le (by omega)]; done) | (rw [lEncode_ship (Decidable.not_not.1 ‹¬ ¬ lCheck d0 = 0›) (by assumption) (by assumption), hb, List.take_of_length_le (by omega)]; done) | (rw [lEncode_ack (Decidable.not_not.1 ‹¬ ¬ lCheck d0 = 0›) (by omega) (by omega)]; simp [putAll]; done))
          refine ⟨Value.slice q63_A0 ((([] ++ putAll ([d0.1, d0.2.1])) ++ putAll ([d0.2.2.2.1])).length) (q63_c0), ?_, ?_⟩
          rotate_left
          · rw [he0]; exact (Ow.up (OwnL.ow (Ow.ownl q63_0 rfl mnil) rfl) (hS_.1 _ (.head _)))
          all_goals (first | rfl | (first | (rw [lEncode_bad (by assumption)] <;> rfl) | (rw [lEncode_hello (Decidable.not_not.1 ‹¬ ¬ lCheck d0 = 0›) (by assumption)] <;> rfl) | (rw [lEncode_ship (Decidable.not_not.1 ‹¬ ¬ lCheck d0 = 0›) (by assumption) (by assumption)] <;> rfl) | (rw [lEncode_ack (Decidable.not_not.1 ‹¬ ¬ lCheck d0 = 0›) (by omega) (by omega)] <;> rfl)))
        · -- FFFF
          have n_ := lc_nums (Decidable.not_not.1 ‹¬ ¬ lCheck d0 = 0›); omega
end
section
set_option linter.unusedVariables false
set_option linter.unusedSimpArgs false
set_option maxRecDepth 4000
theorem tst74 : tst Try.prog 74 = some [(0, 1), (1, 1)] := by kernel_rfl
theorem lNum_ok (W : World) {B_ : Bytes} {at_ : Int} {g0 : Nat} {E0 : TypeId} {d0 : Dletterreader} {b0_0 : Value} (hm : mle (mone g0 (.cells [(b0_0 : Value), .bool d0.2].toArray E0 (0, 0))) (wm W)) (h0_0 : Rd (.sl .byte) (mout (wm W) (mone g0 (.cells [(b0_0 : Value), .bool d0.2].toArray E0 (0, 0)))) [b0_0] d0.1) (d1 : Int) (h1 : inK .i64 d1) (e0 : d0.1 = B_.drop at_.toNat) (e1 : rOk B_ (at_, d0.2)) : CallR Try.prog 50 [.pointer (some ⟨g0, 0, none⟩), .int .i64 d1] W (mone g0 (.cells [(b0_0 : Value), .bool d0.2].toArray E0 (0, 0))) (fun v m' => v = .int .i64 ((rNum B_ d1 (at_, d0.2)).1) ∧ m' = mone g0 (.cells [(dropV b0_0 (((rNum B_ d1 (at_, d0.2)).2.1 - at_).toNat) 1 : Value), .bool ((rNum B_ d1 (at_, d0.2)).2.2)].toArray E0 (0, 0))) := by
  have e1_ := e1; obtain ⟨e1a, e1b⟩ := e1_
  obtain ⟨A0_0, c0_0, rfl, l0_0, k0_0⟩ := h0_0.slice
  simp only [maxLen] at k0_0
  have h1' := h1; simp only [inK] at h1'
  refine CallR.ofB (n := 39) hm Try.func50 rfl rfl rfl ?_
  refine VC.rs ?_
  refine VO.as ?_
  refine VO.k3 0 1 4 ?_
  refine VC.rs ?_
  refine VO.mv ?_
  refine VO.y rfl (.nilp rfl) ?_
  refine VO.y rfl (.fa rfl tst74 rfl) ?_
  refine VO.y rfl (.ld1 1 rfl tk30 rfl (cellsAt_one rfl rfl)) ?_
  refine VO.mv ?_
  refine VO.callN 101 rfl fnOk78 rfl (fun W hW => vSmall_ok W (Rd.mono h0_0 (hW.at (i := 0) rfl)) d1 bdk) (fun v1 m1 hv1 => ?_)
  subst hv1
  have hfa2 := s_bounds d0.1 d1 (by omega)
  refine VO.mv ?_
  refine VO.y rfl (.ext rfl rfl) ?_
  refine VO.y rfl (.ext rfl rfl) ?_
  refine VO.y rfl (.ext rfl rfl) ?_
  refine VO.as ?_
  refine VO.as ?_
  refine VO.as ?_
  refine VO.k6 0 1 4 5 6 7 ?_
  refine VC.seq ?_
  refine VC.rs ?_
  refine VO.mv ?_
  refine VO.y rfl (.nilp rfl) ?_
  refine VO.y rfl (.fa rfl tst74 rfl) ?_
  refine VO.y rfl (.ld1 1 rfl tk4 rfl (cellsAt_one rfl rfl)) ?_
  refine VO.mv ?_
  refine VO.decB (t := 22) rfl (fun hc3 => ?_) (fun hc3 => ?_)
  · -- T
    refine VO.gN ?_
    refine VO.gN ?_
    refine VO.y rfl (.pT rfl rfl) ?_
    refine VO.keep [0, 1] [(0, mout (wm W) (mone g0 (.cells [Value.slice A0_0 (d0.1.length) (c0_0), Value.bool d0.2].toArray E0 (0, 0)))), (1, mone g0 (.cells [Value.slice A0_0 (d0.1.length) (c0_0), Value.bool d0.2].toArray E0 (0, 0)))] (by kernel_rfl) ?_
    refine VO.k7 0 1 4 5 6 7 25 ?_
    refine VC.condT rfl ?_
    refine VC.rs ?_
    refine VO.mv ?_
    refine VO.y rfl (.nilp rfl) ?_
    refine VO.y rfl (.fa rfl tst74 rfl) ?_
    refine VO.store (k := 1) (c' := [Value.slice A0_0 (d0.1.length) (c0_0), Value.bool true]) 1 rfl rfl (.inr ⟨tk4, rfl⟩) rfl rfl rfl rfl rfl ?_
    refine VO.k7 0 1 4 5 6 7 25 ?_
    refine VC.rs ?_
    refine VO.as ?_
    refine VO.k7 0 1 4 5 6 7 25 ?_
    refine VC.ret ?_
    refine outR ?_
    refine ⟨_, _, res_run (rs := [.tmp 4]) rfl (.tmp rfl .nil), fun W_ hI => out_of (l := [mone g0 (.cells [Value.slice A0_0 (d0.1.length) (c0_0), Value.bool true].toArray E0 (0, 0))]) hI [1] rfl rfl (mle_refl _) (fun hS_ => ?_)⟩
    dsimp only [packV]
    have hm0_1 : ((rNum B_ d1 (at_, d0.2)).2.2 : Bool) = true := by first | rfl | (first | (rw [rNum_bad (by assumption)]; assumption) | (rw [rNum_none (by assumption) (by rw [← e0]; assumption)]; done) | (rw [rNum_some (by assumption) (by rw [← e0]; exact Decidable.not_not.1 (by assumption))]; symm; assumption))
    refine ⟨?_, ?_⟩
    rotate_left
    · (rw [hm0_1, muns_one]; (first | done | (first | (rw [rNum_bad (by assumption)]; simp only [Int.sub_self, Int.toNat_zero, dropV_zero]; done) | (rw [rNum_none (by assumption) (by rw [← e0]; assumption)]; simp only [Int.sub_self, Int.toNat_zero, dropV_zero]; done) | (rw [rNum_some (by assumption) (by rw [← e0]; exact Decidable.not_not.1 (by assumption))]; dsimp only; rw [show (at_ + (sN (B_.drop at_.toNat) d1 : Int) - at_).toNat = sN d0.1 d1 by rw [← e0]; omega]; simp only [dropV]; done))))
    all_goals (first | rfl | (first | (rw [rNum_bad (by assumption)] <;> rfl) | (rw [rNum_none (by assumption) (by rw [← e0]; assumption)] <;> rfl) | (rw [rNum_some (by assumption) (by rw [← e0]; exact Decidable.not_not.1 (by assumption))]; dsimp only; rw [← e0]; rfl)))
  · -- F
    refine VO.gy rfl ⟨_, rfl, rfl⟩ (.mv rfl) ?_
    refine VO.gy rfl ⟨_, rfl, rfl⟩ (.neq rfl rfl) ?_
    refine VO.y rfl (.pF rfl rfl) ?_
    refine VO.keep [0, 1] [(0, mout (wm W) (mone g0 (.cells [Value.slice A0_0 (d0.1.length) (c0_0), Value.bool d0.2].toArray E0 (0, 0)))), (1, mone g0 (.cells [Value.slice A0_0 (d0.1.length) (c0_0), Value.bool d0.2].toArray E0 (0, 0)))] (by kernel_rfl) ?_
    refine VO.k7 0 1 4 5 6 7 25 ?_
    refine VC.cond rfl (fun hc4 => ?_) (fun hc4 => ?_)
    · -- FT
      refine VC.rs ?_
      refine VO.mv ?_
      refine VO.y rfl (.nilp rfl) ?_
      refine VO.y rfl (.fa rfl tst74 rfl) ?_
      refine VO.store (k := 1) (c' := [Value.slice A0_0 (d0.1.length) (c0_0), Value.bool true]) 1 rfl rfl (.inr ⟨tk4, rfl⟩) rfl rfl rfl rfl rfl ?_
      refine VO.k7 0 1 4 5 6 7 25 ?_
      refine VC.rs ?_
      refine VO.as ?_
      refine VO.k7 0 1 4 5 6 7 25 ?_
      refine VC.ret ?_
      refine outR ?_
      refine ⟨_, _, res_run (rs := [.tmp 4]) rfl (.tmp rfl .nil), fun W_ hI => out_of (l := [mone g0 (.cells [Value.slice A0_0 (d0.1.length) (c0_0), Value.bool true].toArray E0 (0, 0))]) hI [1] rfl rfl (mle_refl _) (fun hS_ => ?_)⟩
      dsimp only [packV]
      have hm0_1 : ((rNum B_ d1 (at_, d0.2)).2.2 : Bool) = true := by first | rfl | (first | (rw [rNum_bad (by assumption)]; assumption) | (rw [rNum_none (by assumption) (by rw [← e0]; assumption)]; done) | (rw [rNum_some (by assumption) (by rw [← e0]; exact Decidable.not_not.1 (by assumption))]; symm; assumption))
      refine ⟨?_, ?_⟩
      rotate_left
      · (rw [hm0_1, muns_one]; (first | done | (first | (rw [rNum_bad (by assumption)]; simp only [Int.sub_self, Int.toNat_zero, dropV_zero]; done) | (rw [rNum_none (by assumption) (by rw [← e0]; assumption)]; simp only [Int.sub_self, Int.toNat_zero, dropV_zero]; done) | (rw [rNum_some (by assumption) (by rw [← e0]; exact Decidable.not_not.1 (by assumption))]; dsimp only; rw [show (at_ + (sN (B_.drop at_.toNat) d1 : Int) - at_).toNat = sN d0.1 d1 by rw [← e0]; omega]; simp only [dropV]; done))))
      all_goals (first | rfl | (first | (rw [rNum_bad (by assumption)] <;> rfl) | (rw [rNum_none (by assumption) (by rw [← e0]; assumption)] <;> rfl) | (rw [rNum_some (by assumption) (by rw [← e0]; exact Decidable.not_not.1 (by assumption))]; dsimp only; rw [← e0]; rfl)))
    · -- FF
      refine VC.skip ?_
      refine outN ?_
      refine VC.rs ?_
      refine VO.mv ?_
      refine VO.mv ?_
      refine VO.y rfl (.nilp rfl) ?_
      refine VO.y rfl (.fa rfl tst74 rfl) ?_
      refine VO.y rfl (.ld1 1 rfl tk30 rfl (cellsAt_one rfl rfl)) ?_
      refine VO.mv ?_
      obtain ⟨A5, hA5, hs5⟩ := h0_0.drop 1 (sN d0.1 d1) rfl bd
      refine VO.y rfl (.slLI (sN d0.1 d1) A5 rfl rfl tsl30 rfl hA5 bd) ?_
      refine VO.y rfl (.nilp rfl) ?_
      refine VO.y rfl (.fa rfl tst74 rfl) ?_
      refine VO.store (k := 1) (c' := [Value.slice A5 (d0.1.length - (sN d0.1 d1)) (c0_0 - (sN d0.1 d1)), Value.bool d0.2]) 1 rfl rfl (.inr ⟨tk30, rfl⟩) rfl rfl rfl rfl rfl ?_
      refine VO.k7 0 1 4 5 6 7 25 ?_
      refine VC.rs ?_
      refine VO.mv ?_
      refine VO.as ?_
      refine VO.k7 0 1 4 5 6 7 25 ?_
      refine VC.ret ?_
      refine ⟨_, _, res_run (rs := [.tmp 4]) rfl (.tmp rfl .nil), fun W_ hI => out_of (l := [mone g0 (.cells [Value.slice A5 (d0.1.length - (sN d0.1 d1)) (c0_0 - (sN d0.1 d1)), Value.bool d0.2].toArray E0 (0, 0))]) hI [1] rfl rfl (mle_refl _) (fun hS_ => ?_)⟩
      dsimp only [packV]
      have hm0_1 : ((rNum B_ d1 (at_, d0.2)).2.2 : Bool) = d0.2 := by first | rfl | (first | (rw [rNum_bad (by assumption)]; assumption) | (rw [rNum_none (by assumption) (by rw [← e0]; assumption)]; done) | (rw [rNum_some (by assumption) (by rw [← e0]; exact Decidable.not_not.1 (by assumption))]; symm; assumption))
      refine ⟨?_, ?_⟩
      rotate_left
      · (rw [hm0_1, muns_one]; (first | done | (first | (rw [rNum_bad (by assumption)]; simp only [Int.sub_self, Int.toNat_zero, dropV_zero]; done) | (rw [rNum_none (by assumption) (by rw [← e0]; assumption)]; simp only [Int.sub_self, Int.toNat_zero, dropV_zero]; done) | (rw [rNum_some (by assumption) (by rw [← e0]; exact Decidable.not_not.1 (by assumption))]; dsimp only; rw [show (at_ + (sN (B_.drop at_.toNat) d1 : Int) - at_).toNat = sN d0.1 d1 by rw [← e0]; omega]; simp only [dropV, hA5]; done))))
      all_goals (first | rfl | (first | (rw [rNum_bad (by assumption)] <;> rfl) | (rw [rNum_none (by assumption) (by rw [← e0]; assumption)] <;> rfl) | (rw [rNum_some (by assumption) (by rw [← e0]; exact Decidable.not_not.1 (by assumption))]; dsimp only; rw [← e0]; rfl)))
end
section
set_option linter.unusedVariables false
set_option linter.unusedSimpArgs false
set_option maxRecDepth 4000
theorem fnOk50 : fnOk Try.prog 50 = true := by kernel_rfl
theorem fnOk79 : fnOk Try.prog 79 = true := by kernel_rfl
theorem lComm_ok (W : World) {B_ : Bytes} {at_ : Int} {g0 : Nat} {E0 : TypeId} {d0 : Dletterreader} {b0_0 : Value} (hm : mle (mone g0 (.cells [(b0_0 : Value), .bool d0.2].toArray E0 (0, 0))) (wm W)) (h0_0 : Rd (.sl .byte) (mout (wm W) (mone g0 (.cells [(b0_0 : Value), .bool d0.2].toArray E0 (0, 0)))) [b0_0] d0.1) (e0 : d0.1 = B_.drop at_.toNat) (e1 : rOk B_ (at_, d0.2)) (e2 : B_.length ≤ 9223372036854775807) : CallR Try.prog 51 [.pointer (some ⟨g0, 0, none⟩)] W (mone g0 (.cells [(b0_0 : Value), .bool d0.2].toArray E0 (0, 0))) (fun v m' => ∃ (s0 : List Value), ∃ (p0 : Mem), v = .agg s0.toArray ∧ Seps m' [p0, mone g0 (.cells [(dropV (dropV b0_0 (((rNum B_ ((B_.length : Int) - at_) (at_, d0.2)).2.1 - at_).toNat) 1) (((lComm B_ (at_, d0.2)).2.1 - (rNum B_ ((B_.length : Int) - at_) (at_, d0.2)).2.1).toNat) 1 : Value), .bool ((lComm B_ (at_, d0.2)).2.2)].toArray E0 (0, 0))] ∧ Ow TCommit p0 s0 ((lComm B_ (at_, d0.2)).1)) := by
  have e1_ := e1; obtain ⟨e1a, e1b⟩ := e1_
  have ez : d0.1.length = B_.length - at_.toNat := by rw [e0, List.length_drop]
  have hz : ((d0.1.length : Nat) : Int) = (B_.length : Int) - at_ := by omega
  obtain ⟨A0_0, c0_0, rfl, l0_0, k0_0⟩ := h0_0.slice
  simp only [maxLen] at k0_0
  refine CallR.ofB (n := 55) hm Try.func51 rfl rfl rfl ?_
  have h0x : Rd (.sl .byte) (mout (wm W) (mone g0 (.cells [Value.slice A0_0 (d0.1.length) (c0_0), Value.bool d0.2].toArray E0 (0, 0)))) [Value.slice A0_0 (d0.1.length) (c0_0)] (B_.drop at_.toNat) := by have h_ := h0_0; rw [← e0]; exact h_
  refine VC.rs ?_
  refine VO.alloc 102 rfl tz43 (fun g1 => ?_)
  refine VO.k2 0 2 ?_
  refine VC.rs ?_
  refine VO.mv ?_
  refine VO.mv ?_
  refine VO.y rfl (.nilp rfl) ?_
  refine VO.y rfl (.fa rfl tst74 rfl) ?_
  refine VO.y rfl (.ld1 1 rfl tk30 rfl (cellsAt_one rfl rfl)) ?_
  refine VO.y rfl (.lenS rfl tsl30) ?_
  refine VO.call 1 rfl fnOk50 rfl rfl (fun W hW => lNum_ok W (B_ := B_) (at_ := at_) (d0 := (B_.drop at_.toNat, d0.2)) (hW.at (i := 1) rfl) (Rd.mono h0x (hW.out (i := 1) (j := 0) rfl rfl)) ((d0.1.length : Nat) : Int) bdk (by rfl) (by first | assumption | exact ⟨by omega, by omega⟩ | exact ⟨by (simp; done), by (simp; done)⟩)) (fun v3 m3 hv3 => ?_)
  try dsimp only at hv3
  obtain ⟨rfl, rfl⟩ := hv3
  have hfa4 := (rNum_ok (B := B_) (m := ((d0.1.length : Nat) : Int)) (s := (at_, d0.2)) (by first | assumption | exact ⟨by omega, by omega⟩ | exact ⟨by (simp; done), by (simp; done)⟩) (by omega)).1
  try dsimp only at hfa4
  have hfa5 := (rNum_ok (B := B_) (m := ((d0.1.length : Nat) : Int)) (s := (at_, d0.2)) (by first | assumption | exact ⟨by omega, by omega⟩ | exact ⟨by (simp; done), by (simp; done)⟩) (by omega)).1.1
  try dsimp only at hfa5
  have hfa6 := (rNum_ok (B := B_) (m := ((d0.1.length : Nat) : Int)) (s := (at_, d0.2)) (by first | assumption | exact ⟨by omega, by omega⟩ | exact ⟨by (simp; done), by (simp; done)⟩) (by omega)).1.2
  try dsimp only at hfa6
  have hfa7 := (rNum_ok (B := B_) (m := ((d0.1.length : Nat) : Int)) (s := (at_, d0.2)) (by first | assumption | exact ⟨by omega, by omega⟩ | exact ⟨by (simp; done), by (simp; done)⟩) (by omega)).2
  try dsimp only at hfa7
  obtain ⟨A8, hA8, hs8⟩ := h0x.drop 1 (((rNum B_ ((d0.1.length : Nat) : Int) (at_, d0.2)).2.1 - at_).toNat) rfl bd
  simp only [dropV, hA8]
  have hl8 : d0.1.length - (((rNum B_ ((d0.1.length : Nat) : Int) (at_, d0.2)).2.1 - at_).toNat) = (B_.drop (rNum B_ ((d0.1.length : Nat) : Int) (at_, d0.2)).2.1.toNat).length := by simp only [List.length_drop] at *; omega
  have hd8 : Rd (.sl .byte) (mout (wm W) (mone g0 (.cells [Value.slice A0_0 (d0.1.length) (c0_0), Value.bool d0.2].toArray E0 (0, 0)))) [Value.slice A8 (B_.drop (rNum B_ ((d0.1.length : Nat) : Int) (at_, d0.2)).2.1.toNat).length (c0_0 - (((rNum B_ ((d0.1.length : Nat) : Int) (at_, d0.2)).2.1 - at_).toNat))] (B_.drop (rNum B_ ((d0.1.length : Nat) : Int) (at_, d0.2)).2.1.toNat) := Rd.relen (by have h_ : Rd (.sl .byte) (mout (wm W) (mone g0 (.cells [Value.slice A0_0 (d0.1.length) (c0_0), Value.bool d0.2].toArray E0 (0, 0)))) [Value.slice A8 ((B_.drop at_.toNat).length - (((rNum B_ ((d0.1.length : Nat) : Int) (at_, d0.2)).2.1 - at_).toNat)) (c0_0 - (((rNum B_ ((d0.1.length : Nat) : Int) (at_, d0.2)).2.1 - at_).toNat))] ((B_.drop at_.toNat).drop (((rNum B_ ((d0.1.length : Nat) : Int) (at_, d0.2)).2.1 - at_).toNat)) := hs8; rw [drop_at (by omega) (by omega)] at h_; exact h_) rfl
  rw [hl8]
  refine VO.as ?_
  refine VO.k3 0 2 3 ?_
  refine VC.seq ?_
  refine VC.rs ?_
  refine VO.mv ?_
  refine VO.y rfl (.nilp rfl) ?_
  refine VO.y rfl (.fa rfl tst74 rfl) ?_
  refine VO.y rfl (.ld1 1 rfl tk4 rfl (cellsAt_one rfl rfl)) ?_
  refine VO.mv ?_
  refine VO.decB (t := 17) rfl (fun hc9 => ?_) (fun hc9 => ?_)
  · -- T
    refine VO.gN ?_
    refine VO.gN ?_
    refine VO.gN ?_
    refine VO.gN ?_
    refine VO.gN ?_
    refine VO.gN ?_
    refine VO.gN ?_
    refine VO.y rfl (.pT rfl rfl) ?_
    refine VO.keep [1, 102, 0] [(1, mone g0 (.cells [Value.slice A8 ((B_.drop (rNum B_ ((d0.1.length : Nat) : Int) (at_, d0.2)).2.1.toNat).length) (c0_0 - (((rNum B_ ((d0.1.length : Nat) : Int) (at_, d0.2)).2.1 - at_).toNat)), Value.bool ((rNum B_ ((d0.1.length : Nat) : Int) (at_, d0.2)).2.2)].toArray E0 (0, 0))), (102, mone g1 (.cells [Value.int .i64 (0), Value.int .i64 (0), Value.slice none (0) (0)].toArray 43 (0, 0))), (0, mout (wm W) (mone g0 (.cells [Value.slice A0_0 (d0.1.length) (c0_0), Value.bool d0.2].toArray E0 (0, 0))))] (by kernel_rfl) ?_
    refine VO.k4 0 2 3 25 ?_
    refine VC.condT rfl ?_
    refine VC.rs ?_
    refine VO.mv ?_
    refine VO.y rfl (.nilp rfl) ?_
    refine VO.y rfl (.fa rfl tst74 rfl) ?_
    refine VO.store (k := 1) (c' := [Value.slice A8 ((B_.drop (rNum B_ ((d0.1.length : Nat) : Int) (at_, d0.2)).2.1.toNat).length) (c0_0 - (((rNum B_ ((d0.1.length : Nat) : Int) (at_, d0.2)).2.1 - at_).toNat)), Value.bool true]) 1 rfl rfl (.inr ⟨tk4, rfl⟩) rfl rfl rfl rfl rfl ?_
    refine VO.k4 0 2 3 25 ?_
    refine VC.rs ?_
    refine VO.y rfl (.bst (cs := [Value.int .i64 (0), Value.int .i64 (0), Value.slice none (0) (0)]) rfl tst43 tz43 rfl) ?_
    refine VO.store (k := 3) (c' := [Value.int .i64 (0), Value.int .i64 (0), Value.slice none (0) (0)]) 102 rfl rfl (.inl tk43) rfl rfl rfl rfl rfl ?_
    refine VO.k4 0 2 3 25 ?_
    refine VC.ret ?_
    refine outR ?_
    refine ⟨_, _, res_run (rs := [.cell 2 43]) rfl (.agg 102 rfl tk43 rfl ⟨_, _, _, mone_self _ _, Nat.le_of_ble_eq_true rfl, rfl⟩ .nil), fun W_ hI => out_of (l := [mone g0 (.cells [Value.slice A8 ((B_.drop (rNum B_ ((d0.1.length : Nat) : Int) (at_, d0.2)).2.1.toNat).length) (c0_0 - (((rNum B_ ((d0.1.length : Nat) : Int) (at_, d0.2)).2.1 - at_).toNat)), Value.bool true].toArray E0 (0, 0))]) hI [1] rfl rfl (mle_refl _) (fun hS_ => ?_)⟩
    dsimp only [packV]
    have he0 : ((lComm B_ (at_, d0.2)).1 : Ty.Den TCommit) = (0, 0, []) := by first | rfl | (first | (rw [lComm_1 hz (by assumption)] <;> rfl) | (rw [lComm_2 hz (by assumption) (by omega)] <;> rfl) | (rw [lComm_3 hz (by assumption) (by omega)] <;> rfl))
    have hm0_1 : ((lComm B_ (at_, d0.2)).2.2 : Bool) = true := by first | rfl | (first | (rw [lComm_1 hz (by assumption)] <;> rfl) | (rw [lComm_2 hz (by assumption) (by omega)] <;> rfl) | (rw [lComm_3 hz (by assumption) (by omega)] <;> rfl))
    refine ⟨[Value.int .i64 (0), Value.int .i64 (0), Value.slice none (0) (0)], muns [], ?_, ?_, ?_⟩
    rotate_left
    · have hbx : mone g0 (.cells [(dropV (dropV (Value.slice A0_0 d0.1.length c0_0) (((rNum B_ ((B_.length : Int) - at_) (at_, d0.2)).2.1 - at_).toNat) 1) (((lComm B_ (at_, d0.2)).2.1 - (rNum B_ ((B_.length : Int) - at_) (at_, d0.2)).2.1).toNat) 1 : Value), .bool ((lComm B_ (at_, d0.2)).2.2)].toArray E0 (0, 0)) = mone g0 (.cells [Value.slice A8 ((B_.drop (rNum B_ ((d0.1.length : Nat) : Int) (at_, d0.2)).2.1.toNat).length) (c0_0 - (((rNum B_ ((d0.1.length : Nat) : Int) (at_, d0.2)).2.1 - at_).toNat)), Value.bool true].toArray E0 (0, 0)) := (by rw [hm0_1]; first | rfl | (first | (rw [lComm_1 hz (by assumption)]; dsimp only; rw [← hz]; simp only [Int.sub_self, Int.toNat_zero, dropV_zero2]; simp only [dropV, hA8, hl8]; done) | (rw [lComm_2 hz (by assumption) (by omega)]; dsimp only; rw [← hz]; simp only [Int.sub_self, Int.toNat_zero, dropV_zero2]; simp only [dropV, hA8, hl8]; done) | (rw [lComm_3 hz (by assumption) (by omega)]; dsimp only; rw [← hz]; simp only [add_sub_it]; simp only [dropV, hA8, hl8]; done)))
      show Seps _ [muns [], mone g0 (.cells [(dropV (dropV (Value.slice A0_0 d0.1.length c0_0) (((rNum B_ ((B_.length : Int) - at_) (at_, d0.2)).2.1 - at_).toNat) 1) (((lComm B_ (at_, d0.2)).2.1 - (rNum B_ ((B_.length : Int) - at_) (at_, d0.2)).2.1).toNat) 1 : Value), .bool ((lComm B_ (at_, d0.2)).2.2)].toArray E0 (0, 0))]
      rw [hbx]
      exact Seps.grpM (ls := [[], [mone g0 (.cells [Value.slice A8 ((B_.drop (rNum B_ ((d0.1.length : Nat) : Int) (at_, d0.2)).2.1.toNat).length) (c0_0 - (((rNum B_ ((d0.1.length : Nat) : Int) (at_, d0.2)).2.1 - at_).toNat)), Value.bool true].toArray E0 (0, 0))]]) hS_ (by simp only [List.map, muns_one])
    · rw [he0]; exact (mkO_Commit 0 0 [] (Seps.nilAt 0 (Seps.self hS_ (List.Sublist.cons _ List.Sublist.slnil))) bdk bdk (Ow.nil _ _))
    all_goals (first | rfl | (simp [*]; done))
  · -- F
    refine VO.gy rfl ⟨_, rfl, rfl⟩ (.mv rfl) ?_
    refine VO.gy rfl ⟨_, rfl, rfl⟩ (.mv rfl) ?_
    refine VO.gy rfl ⟨_, rfl, rfl⟩ (.nilp rfl) ?_
    refine VO.gy rfl ⟨_, rfl, rfl⟩ (.fa rfl tst74 rfl) ?_
    refine VO.gy rfl ⟨_, rfl, rfl⟩ (.ld1 1 rfl tk30 rfl (cellsAt_one rfl rfl)) ?_
    refine VO.gy rfl ⟨_, rfl, rfl⟩ (.lenS rfl tsl30) ?_
    refine VO.gy rfl ⟨_, rfl, rfl⟩ (.gtr rfl rfl) ?_
    refine VO.y rfl (.pF rfl rfl) ?_
    refine VO.keep [1, 102, 0] [(1, mone g0 (.cells [Value.slice A8 ((B_.drop (rNum B_ ((d0.1.length : Nat) : Int) (at_, d0.2)).2.1.toNat).length) (c0_0 - (((rNum B_ ((d0.1.length : Nat) : Int) (at_, d0.2)).2.1 - at_).toNat)), Value.bool ((rNum B_ ((d0.1.length : Nat) : Int) (at_, d0.2)).2.2)].toArray E0 (0, 0))), (102, mone g1 (.cells [Value.int .i64 (0), Value.int .i64 (0), Value.slice none (0) (0)].toArray 43 (0, 0))), (0, mout (wm W) (mone g0 (.cells [Value.slice A0_0 (d0.1.length) (c0_0), Value.bool d0.2].toArray E0 (0, 0))))] (by kernel_rfl) ?_
    refine VO.k4 0 2 3 25 ?_
    refine VC.cond rfl (fun hc10 => ?_) (fun hc10 => ?_)
    · -- FT
      refine VC.rs ?_
      refine VO.mv ?_
      refine VO.y rfl (.nilp rfl) ?_
      refine VO.y rfl (.fa rfl tst74 rfl) ?_
      refine VO.store (k := 1) (c' := [Value.slice A8 ((B_.drop (rNum B_ ((d0.1.length : Nat) : Int) (at_, d0.2)).2.1.toNat).length) (c0_0 - (((rNum B_ ((d0.1.length : Nat) : Int) (at_, d0.2)).2.1 - at_).toNat)), Value.bool true]) 1 rfl rfl (.inr ⟨tk4, rfl⟩) rfl rfl rfl rfl rfl ?_
      refine VO.k4 0 2 3 25 ?_
      refine VC.rs ?_
      refine VO.y rfl (.bst (cs := [Value.int .i64 (0), Value.int .i64 (0), Value.slice none (0) (0)]) rfl tst43 tz43 rfl) ?_
      refine VO.store (k := 3) (c' := [Value.int .i64 (0), Value.int .i64 (0), Value.slice none (0) (0)]) 102 rfl rfl (.inl tk43) rfl rfl rfl rfl rfl ?_
      refine VO.k4 0 2 3 25 ?_
      refine VC.ret ?_
      refine outR ?_
      refine ⟨_, _, res_run (rs := [.cell 2 43]) rfl (.agg 102 rfl tk43 rfl ⟨_, _, _, mone_self _ _, Nat.le_of_ble_eq_true rfl, rfl⟩ .nil), fun W_ hI => out_of (l := [mone g0 (.cells [Value.slice A8 ((B_.drop (rNum B_ ((d0.1.length : Nat) : Int) (at_, d0.2)).2.1.toNat).length) (c0_0 - (((rNum B_ ((d0.1.length : Nat) : Int) (at_, d0.2)).2.1 - at_).toNat)), Value.bool true].toArray E0 (0, 0))]) hI [1] rfl rfl (mle_refl _) (fun hS_ => ?_)⟩
      dsimp only [packV]
      have he0 : ((lComm B_ (at_, d0.2)).1 : Ty.Den TCommit) = (0, 0, []) := by first | rfl | (first | (rw [lComm_1 hz (by assumption)] <;> rfl) | (rw [lComm_2 hz (by assumption) (by omega)] <;> rfl) | (rw [lComm_3 hz (by assumption) (by omega)] <;> rfl))
      have hm0_1 : ((lComm B_ (at_, d0.2)).2.2 : Bool) = true := by first | rfl | (first | (rw [lComm_1 hz (by assumption)] <;> rfl) | (rw [lComm_2 hz (by assumption) (by omega)] <;> rfl) | (rw [lComm_3 hz (by assumption) (by omega)] <;> rfl))
      refine ⟨[Value.int .i64 (0), Value.int .i64 (0), Value.slice none (0) (0)], muns [], ?_, ?_, ?_⟩
      rotate_left
      · have hbx : mone g0 (.cells [(dropV (dropV (Value.slice A0_0 d0.1.length c0_0) (((rNum B_ ((B_.length : Int) - at_) (at_, d0.2)).2.1 - at_).toNat) 1) (((lComm B_ (at_, d0.2)).2.1 - (rNum B_ ((B_.length : Int) - at_) (at_, d0.2)).2.1).toNat) 1 : Value), .bool ((lComm B_ (at_, d0.2)).2.2)].toArray E0 (0, 0)) = mone g0 (.cells [Value.slice A8 ((B_.drop (rNum B_ ((d0.1.length : Nat) : Int) (at_, d0.2)).2.1.toNat).length) (c0_0 - (((rNum B_ ((d0.1.length : Nat) : Int) (at_, d0.2)).2.1 - at_).toNat)), Value.bool true].toArray E0 (0, 0)) := (by rw [hm0_1]; first | rfl | (first | (rw [lComm_1 hz (by assumption)]; dsimp only; rw [← hz]; simp only [Int.sub_self, Int.toNat_zero, dropV_zero2]; simp only [dropV, hA8, hl8]; done) | (rw [lComm_2 hz (by assumption) (by omega)]; dsimp only; rw [← hz]; simp only [Int.sub_self, Int.toNat_zero, dropV_zero2]; simp only [dropV, hA8, hl8]; done) | (rw [lComm_3 hz (by assumption) (by omega)]; dsimp only; rw [← hz]; simp only [add_sub_it]; simp only [dropV, hA8, hl8]; done)))
        show Seps _ [muns [], mone g0 (.cells [(dropV (dropV (Value.slice A0_0 d0.1.length c0_0) (((rNum B_ ((B_.length : Int) - at_) (at_, d0.2)).2.1 - at_).toNat) 1) (((lComm B_ (at_, d0.2)).2.1 - (rNum B_ ((B_.length : Int) - at_) (at_, d0.2)).2.1).toNat) 1 : Value), .bool ((lComm B_ (at_, d0.2)).2.2)].toArray E0 (0, 0))]
        rw [hbx]
        exact Seps.grpM (ls := [[], [mone g0 (.cells [Value.slice A8 ((B_.drop (rNum B_ ((d0.1.length : Nat) : Int) (at_, d0.2)).2.1.toNat).length) (c0_0 - (((rNum B_ ((d0.1.length : Nat) : Int) (at_, d0.2)).2.1 - at_).toNat)), Value.bool true].toArray E0 (0, 0))]]) hS_ (by simp only [List.map, muns_one])
      · rw [he0]; exact (mkO_Commit 0 0 [] (Seps.nilAt 0 (Seps.self hS_ (List.Sublist.cons _ List.Sublist.slnil))) bdk bdk (Ow.nil _ _))
      all_goals (first | rfl | (simp [*]; done))
    · -- FF
      refine VC.skip ?_
      refine outN ?_
      refine VC.rs ?_
      refine VO.mv ?_
      refine VO.y rfl (.nilp rfl) ?_
      refine VO.y rfl (.fa rfl tst74 rfl) ?_
      refine VO.y rfl (.ld1 1 rfl tk30 rfl (cellsAt_one rfl rfl)) ?_
      refine VO.mv ?_
      have hs11 := hd8.pre (j := (((rNum B_ ((d0.1.length : Nat) : Int) (at_, d0.2)).1).toNat)) bd
      refine VO.y rfl (.slHI (((rNum B_ ((d0.1.length : Nat) : Int) (at_, d0.2)).1).toNat) rfl rfl tsl30 bd bd) ?_
      refine VO.callN 112 rfl fnOk79 rfl (fun W hW => cDecode_ok_ W (Rd.mono hs11 (hW.at (i := 0) rfl))) (fun v12 m12 hv12 => ?_)
      obtain ⟨s12_0, rfl, f12_0⟩ := hv12
      have hfa13 := cDecode_fits ((B_.drop (rNum B_ ((d0.1.length : Nat) : Int) (at_, d0.2)).2.1.toNat).take (((rNum B_ ((d0.1.length : Nat) : Int) (at_, d0.2)).1).toNat))
      obtain ⟨q12_0_A2, q12_0_c2, q12_0_n2, rfl, q12_0_S, q12_0_0, q12_0_1, q12_0_2⟩ := openO_Commit (x0 := ((cDecode ((B_.drop (rNum B_ ((d0.1.length : Nat) : Int) (at_, d0.2)).2.1.toNat).take (((rNum B_ ((d0.1.length : Nat) : Int) (at_, d0.2)).1).toNat))).1).1) (x1 := ((cDecode ((B_.drop (rNum B_ ((d0.1.length : Nat) : Int) (at_, d0.2)).2.1.toNat).take (((rNum B_ ((d0.1.length : Nat) : Int) (at_, d0.2)).1).toNat))).1).2.1) (x2 := ((cDecode ((B_.drop (rNum B_ ((d0.1.length : Nat) : Int) (at_, d0.2)).2.1.toNat).take (((rNum B_ ((d0.1.length : Nat) : Int) (at_, d0.2)).1).toNat))).1).2.2) f12_0
      simp only [inK] at q12_0_0
      simp only [inK] at q12_0_1
      have q12_0_r2 := Rd.room (q12_0_2.rd (mle_refl _))
      refine VO.inv _ (fun _ h => h.parts (i := 112) rfl q12_0_S [114]) ?_
      refine VO.mv ?_
      refine VO.y rfl (.ext rfl rfl) ?_
      refine VO.y rfl (.ext rfl rfl) ?_
      refine VO.alloc 116 rfl tz43 (fun g15 => ?_)
      refine VO.store (k := 3) (c' := [Value.int .i64 (((cDecode ((B_.drop (rNum B_ ((d0.1.length : Nat) : Int) (at_, d0.2)).2.1.toNat).take (((rNum B_ ((d0.1.length : Nat) : Int) (at_, d0.2)).1).toNat))).1).1), Value.int .i64 (((cDecode ((B_.drop (rNum B_ ((d0.1.length : Nat) : Int) (at_, d0.2)).2.1.toNat).take (((rNum B_ ((d0.1.length : Nat) : Int) (at_, d0.2)).1).toNat))).1).2.1), Value.slice q12_0_A2 ((((cDecode ((B_.drop (rNum B_ ((d0.1.length : Nat) : Int) (at_, d0.2)).2.1.toNat).take (((rNum B_ ((d0.1.length : Nat) : Int) (at_, d0.2)).1).toNat))).1).2.2).length) (q12_0_c2)]) 116 rfl rfl (.inl tk43) rfl rfl rfl rfl rfl ?_
      refine VO.as ?_
      refine VO.k6 0 2 3 4 5 25 ?_
      refine VC.rs ?_
      refine VO.mv ?_
      refine VO.mv ?_
      refine VO.y rfl (.neq rfl rfl) ?_
      refine VO.y rfl (.nilp rfl) ?_
      refine VO.y rfl (.fa rfl tst74 rfl) ?_
      refine VO.store (k := 1) (c' := [Value.slice A8 ((B_.drop (rNum B_ ((d0.1.length : Nat) : Int) (at_, d0.2)).2.1.toNat).length) (c0_0 - (((rNum B_ ((d0.1.length : Nat) : Int) (at_, d0.2)).2.1 - at_).toNat)), Value.bool (decide (¬ ((cDecode ((B_.drop (rNum B_ ((d0.1.length : Nat) : Int) (at_, d0.2)).2.1.toNat).take (((rNum B_ ((d0.1.length : Nat) : Int) (at_, d0.2)).1).toNat))).2) = 0))]) 1 rfl rfl (.inr ⟨tk4, rfl⟩) rfl rfl rfl rfl rfl ?_
      refine VO.k6 0 2 3 4 5 25 ?_
      refine VC.rs ?_
      refine VO.mv ?_
      refine VO.mv ?_
      refine VO.y rfl (.nilp rfl) ?_
      refine VO.y rfl (.fa rfl tst74 rfl) ?_
      refine VO.y rfl (.ld1 1 rfl tk30 rfl (cellsAt_one rfl rfl)) ?_
      refine VO.mv ?_
      obtain ⟨A17, hA17, hs17⟩ := hd8.drop 1 (((rNum B_ ((d0.1.length : Nat) : Int) (at_, d0.2)).1).toNat) rfl bd
      refine VO.y rfl (.slLI (((rNum B_ ((d0.1.length : Nat) : Int) (at_, d0.2)).1).toNat) A17 rfl rfl tsl30 bd hA17 bd) ?_
      refine VO.y rfl (.nilp rfl) ?_
      refine VO.y rfl (.fa rfl tst74 rfl) ?_
      refine VO.store (k := 1) (c' := [Value.slice A17 (((B_.drop (rNum B_ ((d0.1.length : Nat) : Int) (at_, d0.2)).2.1.toNat).length) - (((rNum B_ ((d0.1.length : Nat) : Int) (at_, d0.2)).1).toNat)) ((c0_0 - (((rNum B_ ((d0.1.length : Nat) : Int) (at_, d0.2)).2.1 - at_).toNat)) - (((rNum B_ ((d0.1.length : Nat) : Int) (at_, d0.2)).1).toNat)), Value.bool (decide (¬ ((cDecode ((B_.drop (rNum B_ ((d0.1.length : Nat) : Int) (at_, d0.2)).2.1.toNat).take (((rNum B_ ((d0.1.length : Nat) : Int) (at_, d0.2)).1).toNat))).2) = 0))]) 1 rfl rfl (.inr ⟨tk30, rfl⟩) rfl rfl rfl rfl rfl ?_
      refine VO.keep [116, 114, 1, 102, 0] [(116, mone g15 (.cells [Value.int .i64 (((cDecode ((B_.drop (rNum B_ ((d0.1.length : Nat) : Int) (at_, d0.2)).2.1.toNat).take (((rNum B_ ((d0.1.length : Nat) : Int) (at_, d0.2)).1).toNat))).1).1), Value.int .i64 (((cDecode ((B_.drop (rNum B_ ((d0.1.length : Nat) : Int) (at_, d0.2)).2.1.toNat).take (((rNum B_ ((d0.1.length : Nat) : Int) (at_, d0.2)).1).toNat))).1).2.1), Value.slice q12_0_A2 ((((cDecode ((B_.drop (rNum B_ ((d0.1.length : Nat) : Int) (at_, d0.2)).2.1.toNat).take (((rNum B_ ((d0.1.length : Nat) : Int) (at_, d0.2)).1).toNat))).1).2.2).length) (q12_0_c2)].toArray 43 (0, 0))), (114, q12_0_n2), (1, mone g0 (.cells [Value.slice A17 (((B_.drop (rNum B_ ((d0.1.length : Nat) : Int) (at_, d0.2)).2.1.toNat).length) - (((rNum B_ ((d0.1.length : Nat) : Int) (at_, d0.2)).1).toNat)) ((c0_0 - (((rNum B_ ((d0.1.length : Nat) : Int) (at_, d0.2)).2.1 - at_).toNat)) - (((rNum B_ ((d0.1.length : Nat) : Int) (at_, d0.2)).1).toNat)), Value.bool (decide (¬ ((cDecode ((B_.drop (rNum B_ ((d0.1.length : Nat) : Int) (at_, d0.2)).2.1.toNat).take (((rNum B_ ((d0.1.length : Nat) : Int) (at_, d0.2)).1).toNat))).2) = 0))].toArray E0 (0, 0))), (102, mone g1 (.cells [Value.int .i64 (0), Value.int .i64 (0), Value.slice none (0) (0)].toArray 43 (0, 0))), (0, mout (wm W) (mone g0 (.cells [Value.slice A0_0 (d0.1.length) (c0_0), Value.bool d0.2].toArray E0 (0, 0))))] (by kernel_rfl) ?_
      refine VO.k6 0 2 3 4 5 25 ?_
      refine VC.rs ?_
      refine VO.y rfl (.ldA 116 rfl tk43 rfl (cellsAt_one rfl rfl)) ?_
      refine VO.store (k := 3) (c' := [Value.int .i64 (((cDecode ((B_.drop (rNum B_ ((d0.1.length : Nat) : Int) (at_, d0.2)).2.1.toNat).take (((rNum B_ ((d0.1.length : Nat) : Int) (at_, d0.2)).1).toNat))).1).1), Value.int .i64 (((cDecode ((B_.drop (rNum B_ ((d0.1.length : Nat) : Int) (at_, d0.2)).2.1.toNat).take (((rNum B_ ((d0.1.length : Nat) : Int) (at_, d0.2)).1).toNat))).1).2.1), Value.slice q12_0_A2 ((((cDecode ((B_.drop (rNum B_ ((d0.1.length : Nat) : Int) (at_, d0.2)).2.1.toNat).take (((rNum B_ ((d0.1.length : Nat) : Int) (at_, d0.2)).1).toNat))).1).2.2).length) (q12_0_c2)]) 102 rfl rfl (.inl tk43) rfl rfl rfl rfl rfl ?_
      refine VO.k6 0 2 3 4 5 25 ?_
      refine VC.ret ?_
      refine ⟨_, _, res_run (rs := [.cell 2 43]) rfl (.agg 102 rfl tk43 rfl ⟨_, _, _, mone_self _ _, Nat.le_of_ble_eq_true rfl, rfl⟩ .nil), fun W_ hI => out_of (l := [q12_0_n2, mone g0 (.cells [Value.slice A17 (((B_.drop (rNum B_ ((d0.1.length : Nat) : Int) (at_, d0.2)).2.1.toNat).length) - (((rNum B_ ((d0.1.length : Nat) : Int) (at_, d0.2)).1).toNat)) ((c0_0 - (((rNum B_ ((d0.1.length : Nat) : Int) (at_, d0.2)).2.1 - at_).toNat)) - (((rNum B_ ((d0.1.length : Nat) : Int) (at_, d0.2)).1).toNat)), Value.bool (decide (¬ ((cDecode ((B_.drop (rNum B_ ((d0.1.length : Nat) : Int) (at_, d0.2)).2.1.toNat).take (((rNum B_ ((d0.1.length : Nat) : Int) (at_, d0.2)).1).toNat))).2) = 0))].toArray E0 (0, 0))]) hI [114, 1] rfl rfl (mle_refl _) (fun hS_ => ?_)⟩
      dsimp only [packV]
      have he0 : ((lComm B_ (at_, d0.2)).1 : Ty.Den TCommit) = ((cDecode ((B_.drop (rNum B_ ((d0.1.length : Nat) : Int) (at_, d0.2)).2.1.toNat).take (((rNum B_ ((d0.1.length : Nat) : Int) (at_, d0.2)).1).toNat))).1) := by first | rfl | (first | (rw [lComm_1 hz (by assumption)] <;> rfl) | (rw [lComm_2 hz (by assumption) (by omega)] <;> rfl) | (rw [lComm_3 hz (by assumption) (by omega)] <;> rfl))
      have hm0_1 : ((lComm B_ (at_, d0.2)).2.2 : Bool) = decide (¬ ((cDecode ((B_.drop (rNum B_ ((d0.1.length : Nat) : Int) (at_, d0.2)).2.1.toNat).take (((rNum B_ ((d0.1.length : Nat) : Int) (at_, d0.2)).1).toNat))).2) = 0) := by first | rfl | (first | (rw [lComm_1 hz (by assumption)] <;> rfl) | (rw [lComm_2 hz (by assumption) (by omega)] <;> rfl) | (rw [lComm_3 hz (by assumption) (by omega)] <;> rfl))
      refine ⟨[Value.int .i64 (((cDecode ((B_.drop (rNum B_ ((d0.1.length : Nat) : Int) (at_, d0.2)).2.1.toNat).take (((rNum B_ ((d0.1.length : Nat) : Int) (at_, d0.2)).1).toNat))).1).1), Value.int .i64 (((cDecode ((B_.drop (rNum B_ ((d0.1.length : Nat) : Int) (at_, d0.2)).2.1.toNat).take (((rNum B_ ((d0.1.length : Nat) : Int) (at_, d0.2)).1).toNat))).1).2.1), Value.slice q12_0_A2 ((((cDecode ((B_.drop (rNum B_ ((d0.1.length : Nat) : Int) (at_, d0.2)).2.1.toNat).take (((rNum B_ ((d0.1.length : Nat) : Int) (at_, d0.2)).1).toNat))).1).2.2).length) (q12_0_c2)], muns [q12_0_n2], ?_, ?_, ?_⟩
      rotate_left
      · have hbx : mone g0 (.cells [(dropV (dropV (Value.slice A0_0 d0.1.length c0_0) (((rNum B_ ((B_.length : Int) - at_) (at_, d0.2)).2.1 - at_).toNat) 1) (((lComm B_ (at_, d0.2)).2.1 - (rNum B_ ((B_.length : Int) - at_) (at_, d0.2)).2.1).toNat) 1 : Value), .bool ((lComm B_ (at_, d0.2)).2.2)].toArray E0 (0, 0)) = mone g0 (.cells [Value.slice A17 (((B_.drop (rNum B_ ((d0.1.length : Nat) : Int) (at_, d0.2)).2.1.toNat).length) - (((rNum B_ ((d0.1.length : Nat) : Int) (at_, d0.2)).1).toNat)) ((c0_0 - (((rNum B_ ((d0.1.length : Nat) : Int) (at_, d0.2)).2.1 - at_).toNat)) - (((rNum B_ ((d0.1.length : Nat) : Int) (at_, d0.2)).1).toNat)), Value.bool (decide (¬ ((cDecode ((B_.drop (rNum B_ ((d0.1.length : Nat) : Int) (at_, d0.2)).2.1.toNat).take (((rNum B_ ((d0.1.length : Nat) : Int) (at_, d0.2)).1).toNat))).2) = 0))].toArray E0 (0, 0)) := (by rw [hm0_1]; first | rfl | (first | (rw [lComm_1 hz (by assumption)]; dsimp only; rw [← hz]; simp only [Int.sub_self, Int.toNat_zero, dropV_zero2]; simp only [dropV, hA8, hl8, hA17]; done) | (rw [lComm_2 hz (by assumption) (by omega)]; dsimp only; rw [← hz]; simp only [Int.sub_self, Int.toNat_zero, dropV_zero2]; simp only [dropV, hA8, hl8, hA17]; done) | (rw [lComm_3 hz (by assumption) (by omega)]; dsimp only; rw [← hz]; simp only [add_sub_it]; simp only [dropV, hA8, hl8, hA17]; done)))
        show Seps _ [muns [q12_0_n2], mone g0 (.cells [(dropV (dropV (Value.slice A0_0 d0.1.length c0_0) (((rNum B_ ((B_.length : Int) - at_) (at_, d0.2)).2.1 - at_).toNat) 1) (((lComm B_ (at_, d0.2)).2.1 - (rNum B_ ((B_.length : Int) - at_) (at_, d0.2)).2.1).toNat) 1 : Value), .bool ((lComm B_ (at_, d0.2)).2.2)].toArray E0 (0, 0))]
        rw [hbx]
        exact Seps.grpM (ls := [[q12_0_n2], [mone g0 (.cells [Value.slice A17 (((B_.drop (rNum B_ ((d0.1.length : Nat) : Int) (at_, d0.2)).2.1.toNat).length) - (((rNum B_ ((d0.1.length : Nat) : Int) (at_, d0.2)).1).toNat)) ((c0_0 - (((rNum B_ ((d0.1.length : Nat) : Int) (at_, d0.2)).2.1 - at_).toNat)) - (((rNum B_ ((d0.1.length : Nat) : Int) (at_, d0.2)).1).toNat)), Value.bool (decide (¬ ((cDecode ((B_.drop (rNum B_ ((d0.1.length : Nat) : Int) (at_, d0.2)).2.1.toNat).take (((rNum B_ ((d0.1.length : Nat) : Int) (at_, d0.2)).1).toNat))).2) = 0))].toArray E0 (0, 0))]]) hS_ (by simp only [List.map, muns_one])
      · rw [he0]; exact (show Ow TCommit _ _ ((cDecode ((B_.drop (rNum B_ ((d0.1.length : Nat) : Int) (at_, d0.2)).2.1.toNat).take (((rNum B_ ((d0.1.length : Nat) : Int) (at_, d0.2)).1).toNat))).1) from (mkO_Commit (((cDecode ((B_.drop (rNum B_ ((d0.1.length : Nat) : Int) (at_, d0.2)).2.1.toNat).take (((rNum B_ ((d0.1.length : Nat) : Int) (at_, d0.2)).1).toNat))).1).1) (((cDecode ((B_.drop (rNum B_ ((d0.1.length : Nat) : Int) (at_, d0.2)).2.1.toNat).take (((rNum B_ ((d0.1.length : Nat) : Int) (at_, d0.2)).1).toNat))).1).2.1) (((cDecode ((B_.drop (rNum B_ ((d0.1.length : Nat) : Int) (at_, d0.2)).2.1.toNat).take (((rNum B_ ((d0.1.length : Nat) : Int) (at_, d0.2)).1).toNat))).1).2.2) (Seps.self hS_ (List.Sublist.cons_cons _ (List.Sublist.cons _ List.Sublist.slnil))) bdk bdk (OwnL.ow (Ow.ownl q12_0_2 rfl mnil) rfl)))
      all_goals (first | rfl | (simp [*]; done))
end
end Go.Proofs.Ytcikgnbpcombpaa
