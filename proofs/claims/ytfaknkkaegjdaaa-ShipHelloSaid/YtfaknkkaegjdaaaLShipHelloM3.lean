/- Part 3 of the proof of LShipHello: what it needs of the library, the walks and the plain laws. Conditions: those named in each theorem. -/
import Derived.Test.YtfaknkkaegjdaaaLShipHelloM2
namespace Go.Proofs.Ytfaknkkaegjdaaa
section
set_option linter.unusedVariables false
set_option linter.unusedSimpArgs false
set_option maxRecDepth 4000
theorem fnOk124 : fnOk Try.prog 124 = true := by kernel_rfl
theorem fnOk125 : fnOk Try.prog 125 = true := by kernel_rfl
theorem fnOk126 : fnOk Try.prog 126 = true := by kernel_rfl
theorem fnOk127 : fnOk Try.prog 127 = true := by kernel_rfl
theorem fnOk134 : fnOk Try.prog 134 = true := by kernel_rfl
theorem fnOk146 : fnOk Try.prog 146 = true := by kernel_rfl
theorem fnOk147 : fnOk Try.prog 147 = true := by kernel_rfl
theorem tfk57_0 : ∀ F : Array Field, Try.prog.underlying 57 = some (.struct F) → ∀ f, F[0]? = some f → tk Try.prog f.type = some none := tfk_of (by kernel_rfl)
theorem tk90 : tk Try.prog 90 = some (some 2) := by kernel_rfl
theorem lwithin_ok (W : World) (d0 : Int) (h0 : inK .i64 d0) (d1 : Int) (h1 : inK .i64 d1) (d2 : Int) (h2 : inK .i64 d2) : CallR Try.prog 124 [.int .i64 d0, .int .i64 d1, .int .i64 d2] W (mnil) (fun v m' => v = .bool (decide (d1 ≤ d0 ∧ d0 ≤ d2))) := by
  have h0' := h0; simp only [inK] at h0'
  have h1' := h1; simp only [inK] at h1'
  have h2' := h2; simp only [inK] at h2'
  refine CallR.ofA (n := 15) Try.func124 rfl rfl rfl ?_
  refine VC.rs ?_
  refine VO.as ?_
  refine VO.k4 0 1 2 6 ?_
  refine VC.rs ?_
  refine VO.mv ?_
  refine VO.mv ?_
  refine VO.y rfl (.geq rfl rfl) ?_
  refine VO.mv ?_
  refine VO.dec (t := 10) rfl (fun hc1 => ?_) (fun hc1 => ?_)
  · -- T
    refine VO.gy rfl ⟨_, rfl, rfl⟩ (.mv rfl) ?_
    refine VO.gy rfl ⟨_, rfl, rfl⟩ (.mv rfl) ?_
    refine VO.gy rfl ⟨_, rfl, rfl⟩ (.leq rfl rfl) ?_
    refine VO.y rfl (.pT rfl rfl) ?_
    refine VO.as ?_
    refine VO.k4 0 1 2 6 ?_
    refine VC.ret ?_
    refine ⟨_, _, res_run (rs := [.tmp 6]) rfl (.tmp rfl .nil), fun W_ hI => out_of (l := []) hI [] rfl rfl (mle_refl _) (fun hS_ => ?_)⟩
    dsimp only [packV]
    all_goals (first | rfl | (first | exact congrArg Value.bool (decide_eq_false (by omega)).symm | exact congrArg Value.bool (decide_eq_decide.2 (by omega))))
  · -- F
    refine VO.gN ?_
    refine VO.gN ?_
    refine VO.gN ?_
    refine VO.y rfl (.pF rfl rfl) ?_
    refine VO.as ?_
    refine VO.k4 0 1 2 6 ?_
    refine VC.ret ?_
    refine ⟨_, _, res_run (rs := [.tmp 6]) rfl (.tmp rfl .nil), fun W_ hI => out_of (l := []) hI [] rfl rfl (mle_refl _) (fun hS_ => ?_)⟩
    dsimp only [packV]
    all_goals (first | rfl | (first | exact congrArg Value.bool (decide_eq_false (by omega)).symm | exact congrArg Value.bool (decide_eq_decide.2 (by omega))))
theorem lrole_ok (W : World) (d0 : Int) (h0 : inK .u8 d0) : CallR Try.prog 146 [.int .u8 d0] W (mnil) (fun v m' => v = .bool (decide (1 ≤ d0 ∧ d0 ≤ 3))) := by
  have h0' := h0; simp only [inK] at h0'
  refine CallR.ofA (n := 9) Try.func146 rfl rfl rfl ?_
  refine VC.rs ?_
  refine VO.as ?_
  refine VO.k2 0 2 ?_
  refine VC.rs ?_
  refine VO.mv ?_
  refine VO.y rfl (.geq rfl rfl) ?_
  refine VO.mv ?_
  refine VO.dec (t := 5) rfl (fun hc1 => ?_) (fun hc1 => ?_)
  · -- T
    refine VO.gy rfl ⟨_, rfl, rfl⟩ (.mv rfl) ?_
    refine VO.gy rfl ⟨_, rfl, rfl⟩ (.leq rfl rfl) ?_
    refine VO.y rfl (.pT rfl rfl) ?_
    refine VO.as ?_
    refine VO.k2 0 2 ?_
    refine VC.ret ?_
    refine ⟨_, _, res_run (rs := [.tmp 2]) rfl (.tmp rfl .nil), fun W_ hI => out_of (l := []) hI [] rfl rfl (mle_refl _) (fun hS_ => ?_)⟩
    dsimp only [packV]
    all_goals (first | rfl | (first | exact congrArg Value.bool (decide_eq_false (by omega)).symm | exact congrArg Value.bool (decide_eq_decide.2 (by omega))))
  · -- F
    refine VO.gN ?_
    refine VO.gN ?_
    refine VO.y rfl (.pF rfl rfl) ?_
    refine VO.as ?_
    refine VO.k2 0 2 ?_
    refine VC.ret ?_
    refine ⟨_, _, res_run (rs := [.tmp 2]) rfl (.tmp rfl .nil), fun W_ hI => out_of (l := []) hI [] rfl rfl (mle_refl _) (fun hS_ => ?_)⟩
    dsimp only [packV]
    all_goals (first | rfl | (first | exact congrArg Value.bool (decide_eq_false (by omega)).symm | exact congrArg Value.bool (decide_eq_decide.2 (by omega))))
theorem fin0_sCheck_ok {P : Prop} (h : P := by congr 1; first | exact (sCheck_arg (by omega)).symm | exact (sCheck_len ‹¬ decide _ = decide _›).symm | exact (sCheck_bad hs ‹d0[k]? = some _› (by omega)).symm | exact (sCheck_good (by omega) (by omega) ‹¬ ¬ decide _ = decide _› (hs.2 (by rw [List.drop_of_length_le (by omega)]; trivial))).symm) : P := h
theorem sCheck_ok (W : World) {v0 : Value} {d0 : List DStart} (h0 : Rd (.sl TStart) (wm W) [v0] d0) (d1 : Int) (h1 : inK .i64 d1) : CallR Try.prog 134 [v0, .int .i64 d1] W (mnil) (fun v m' => v = .int .i64 (sCheck d0 d1)) := by
  obtain ⟨A0, c0, rfl, l0, k0⟩ := h0.slice
  simp only [maxLen] at k0
  have h1' := h1; simp only [inK] at h1'
  refine CallR.ofA (n := 64) Try.func134 rfl rfl rfl ?_
  refine VC.rs ?_
  refine VO.as ?_
  refine VO.k3 0 1 4 ?_
  refine VC.seq ?_
  refine VC.rs ?_
  refine VO.mv ?_
  refine VO.y rfl (.lss rfl rfl) ?_
  refine VO.mv ?_
  refine VO.dec (t := 10) rfl (fun hc1 => ?_) (fun hc1 => ?_)
  · -- T
    refine VO.gN ?_
    refine VO.gN ?_
    refine VO.y rfl (.pT rfl rfl) ?_
    refine VO.mv ?_
    refine VO.gN ?_
    refine VO.gN ?_
    refine VO.gN ?_
    refine VO.gN ?_
    refine VO.gN ?_
    refine VO.gN ?_
    refine VO.y rfl (.pT rfl rfl) ?_
    refine VO.k4 0 1 4 21 ?_
    refine VC.condT rfl ?_
    refine VC.rs ?_
    refine VO.as ?_
    refine VO.keep [0] [(0, wm W)] (by kernel_rfl) ?_
    refine VO.k4 0 1 4 21 ?_
    refine VC.ret ?_
    refine outR ?_
    refine ⟨_, _, res_run (rs := [.tmp 4]) rfl (.tmp rfl .nil), fun W_ hI => out_of (l := []) hI [] rfl rfl (mle_refl _) (fun hS_ => ?_)⟩
    dsimp only [packV]
    all_goals (first | rfl | (exact fin0_sCheck_ok))
  · -- F
    refine VO.gy rfl ⟨_, rfl, rfl⟩ (.mv rfl) ?_
    refine VO.gy rfl ⟨_, rfl, rfl⟩ (.gtr rfl rfl) ?_
    refine VO.y rfl (.pF rfl rfl) ?_
    refine VO.mv ?_
    refine VO.dec (t := 14) rfl (fun hc2 => ?_) (fun hc2 => ?_)
    · -- FT
      refine VO.gN ?_
      refine VO.gN ?_
      refine VO.gN ?_
      refine VO.gN ?_
      refine VO.gN ?_
      refine VO.gN ?_
      refine VO.y rfl (.pT rfl rfl) ?_
      refine VO.k4 0 1 4 21 ?_
      refine VC.condT rfl ?_
      refine VC.rs ?_
      refine VO.as ?_
      refine VO.keep [0] [(0, wm W)] (by kernel_rfl) ?_
      refine VO.k4 0 1 4 21 ?_
      refine VC.ret ?_
      refine outR ?_
      refine ⟨_, _, res_run (rs := [.tmp 4]) rfl (.tmp rfl .nil), fun W_ hI => out_of (l := []) hI [] rfl rfl (mle_refl _) (fun hS_ => ?_)⟩
      dsimp only [packV]
      all_goals (first | rfl | (exact fin0_sCheck_ok))
    · -- FF
      refine VO.gy rfl ⟨_, rfl, rfl⟩ (.mv rfl) ?_
      refine VO.gy rfl ⟨_, rfl, rfl⟩ (.lenS rfl tsl70) ?_
      refine VO.gy rfl ⟨_, rfl, rfl⟩ (.eql rfl rfl) ?_
      refine VO.gy rfl ⟨_, rfl, rfl⟩ (.mv rfl) ?_
      refine VO.gy rfl ⟨_, rfl, rfl⟩ (.eql rfl rfl) ?_
      refine VO.gy rfl ⟨_, rfl, rfl⟩ (.bneq rfl rfl Try.underlying4) ?_
      refine VO.y rfl (.pF rfl rfl) ?_
      refine VO.k4 0 1 4 21 ?_
      refine VC.cond rfl (fun hc3 => ?_) (fun hc3 => ?_)
      · -- FFT
        refine VC.rs ?_
        refine VO.as ?_
        refine VO.keep [0] [(0, wm W)] (by kernel_rfl) ?_
        refine VO.k4 0 1 4 21 ?_
        refine VC.ret ?_
        refine outR ?_
        refine ⟨_, _, res_run (rs := [.tmp 4]) rfl (.tmp rfl .nil), fun W_ hI => out_of (l := []) hI [] rfl rfl (mle_refl _) (fun hS_ => ?_)⟩
        dsimp only [packV]
        all_goals (first | rfl | (exact fin0_sCheck_ok))
      · -- FFF
        refine VC.skip ?_
        refine outN ?_
        refine VC.rs ?_
        refine VO.y rfl (.bst (cs := [Value.int .i64 (0), Value.int .i64 (0)]) rfl tst90 tz90 rfl) ?_
        refine VO.alloc 105 rfl tz90 (fun g4 => ?_)
        refine VO.store (k := 2) (c' := [Value.int .i64 (0), Value.int .i64 (0)]) 105 rfl rfl (.inl tk90) rfl rfl rfl rfl rfl ?_
        refine VO.keep [105, 0] [(105, mone g4 (.cells [Value.int .i64 (0), Value.int .i64 (0)].toArray 90 (0, 0))), (0, wm W)] (by kernel_rfl) ?_
        refine VO.k5 0 1 4 5 21 ?_
        refine VC.seq ?_
        refine VC.rs ?_
        refine VO.mv ?_
        refine VO.y rfl (.lenS rfl tsl70) ?_
        refine VO.mv ?_
        refine VO.k8 0 1 4 5 21 23 24 25 ?_
        refine VC.block ?_
        refine VC.loop (G := Nat × Int × Int) (fun g => [(25, Value.int .i64 ((((g.1) : Nat) : Int))), (0, Value.slice A0 (d0.length) (c0)), (1, Value.int .i64 (d1)), (5, Value.pointer (some ⟨g4, 0, none⟩)), (21, Value.bool (decide (¬ (decide (((d0.length : Nat) : Int) = 0)) = (decide (d1 = 0))))), (23, Value.slice A0 (d0.length) (c0)), (24, Value.int .i64 (((d0.length : Nat) : Int)))]) (fun g => [(105, mone g4 (.cells [Value.int .i64 ((g.2.1)), Value.int .i64 ((g.2.2))].toArray 90 (0, 0))), (0, wm W)]) (fun g => ((g.1) ≤ d0.length) ∧ (sGo d1 0 0 0 d0 ↔ sGo d1 (g.2.1) (g.2.2) (g.1) (d0.drop (g.1)))) (fun g => d0.length - (g.1)) (0, 0, 0) (⟨by omega, by exact Iff.rfl⟩) ⟨⟨rfl, rfl, rfl, rfl, rfl, rfl, rfl, trivial⟩, fun _ h => h.sub [105, 0]⟩ ?_
        rintro ⟨k, le, lf⟩ ⟨hk, hs⟩
        replace hk : k ≤ d0.length := hk
        replace hs : sGo d1 0 0 0 d0 ↔ sGo d1 le lf k (d0.drop k) := hs
        show VC _ _ _ _ _ [(25, Value.int .i64 (((k : Nat) : Int))), (0, Value.slice A0 (d0.length) (c0)), (1, Value.int .i64 (d1)), (5, Value.pointer (some ⟨g4, 0, none⟩)), (21, Value.bool (decide (¬ (decide (((d0.length : Nat) : Int) = 0)) = (decide (d1 = 0))))), (23, Value.slice A0 (d0.length) (c0)), (24, Value.int .i64 (((d0.length : Nat) : Int)))] [(105, mone g4 (.cells [Value.int .i64 (le), Value.int .i64 (lf)].toArray 90 (0, 0))), (0, wm W)]
        refine VC.rs ?_
        refine VO.y rfl (.lss rfl rfl) ?_
        refine VO.k8 0 1 5 21 23 24 25 26 ?_
        refine VC.seq ?_
        refine VC.cond rfl (fun hc6 => ?_) (fun hc6 => ?_)
        · -- FFFT
          refine VC.skip ?_
          refine outN ?_
          refine VC.seq ?_
          refine VC.block ?_
          refine VC.rs ?_
          refine VO.mv ?_
          obtain ⟨x7, hx7⟩ : ∃ z_, (d0)[k]? = some z_ := ⟨_, List.getElem?_eq_getElem bd⟩
          obtain ⟨gg7, oo7, ec7, ea7, hce7, hre7⟩ := h0.elem hx7
          cases ea7
          obtain ⟨rfl, q7_0, q7_1⟩ := open_Start (x0 := x7.1) (x1 := x7.2) hre7
          simp only [inK] at q7_0
          simp only [inK] at q7_1
          refine VO.y rfl (.ixI k rfl rfl tsl70 rfl bd) ?_
          refine VO.y rfl (.ldA 0 rfl tk90 rfl hce7) ?_
          refine VO.alloc 109 rfl tz90 (fun g8 => ?_)
          refine VO.as ?_
          refine VO.store (k := 2) (c' := [Value.int .i64 (x7.1), Value.int .i64 (x7.2)]) 109 rfl rfl (.inl tk90) rfl rfl rfl rfl rfl ?_
          refine VO.keep [109, 105, 0] [(109, mone g8 (.cells [Value.int .i64 (x7.1), Value.int .i64 (x7.2)].toArray 90 (0, 0))), (105, mone g4 (.cells [Value.int .i64 (le), Value.int .i64 (lf)].toArray 90 (0, 0))), (0, wm W)] (by kernel_rfl) ?_
          refine VO.k10 0 1 5 6 7 21 23 24 25 26 ?_
          refine VC.seq ?_
          refine VC.rs ?_
          refine VO.y rfl (.fa rfl tst90 rfl) ?_
          refine VO.y rfl (.ld1 109 rfl tk3 rfl (cellsAt_one rfl rfl)) ?_
          refine VO.y rfl (.fa rfl tst90 rfl) ?_
          refine VO.y rfl (.ld1 105 rfl tk3 rfl (cellsAt_one rfl rfl)) ?_
          refine VO.y rfl (.leq rfl rfl) ?_
          refine VO.mv ?_
          refine VO.dec (t := 35) rfl (fun hc10 => ?_) (fun hc10 => ?_)
          · -- FFFTT
            refine VO.gN ?_
            refine VO.gN ?_
            refine VO.gN ?_
            refine VO.y rfl (.pT rfl rfl) ?_
            refine VO.mv ?_
            refine VO.gN ?_
            refine VO.gN ?_
            refine VO.gN ?_
            refine VO.gN ?_
            refine VO.gN ?_
            refine VO.y rfl (.pT rfl rfl) ?_
            refine VO.mv ?_
            refine VO.gN ?_
            refine VO.gN ?_
            refine VO.gN ?_
            refine VO.gN ?_
            refine VO.y rfl (.pT rfl rfl) ?_
            refine VO.mv ?_
            refine VO.gN ?_
            refine VO.gN ?_
            refine VO.gN ?_
            refine VO.gn rfl (.inr ⟨_, rfl, rfl⟩) ?_
            refine VO.gn rfl (.inr ⟨_, rfl, rfl⟩) ?_
            refine VO.gn rfl (.inr ⟨_, rfl, rfl⟩) ?_
            refine VO.gN ?_
            refine VO.y rfl (.pT rfl rfl) ?_
            refine VO.k11 0 1 5 6 7 21 23 24 25 26 61 ?_
            refine VC.condT rfl ?_
            refine VC.rs ?_
            refine VO.as ?_
            refine VO.k12 0 1 4 5 6 7 21 23 24 25 26 61 ?_
            refine VC.ret ?_
            refine outR ?_
            refine outBR ?_
            refine outR ?_
            refine outR ?_
            refine outBR ?_
            refine outR ?_
            refine ⟨_, _, res_run (rs := [.tmp 4]) rfl (.tmp rfl .nil), fun W_ hI => out_of (l := []) hI [] rfl rfl (mle_refl _) (fun hS_ => ?_)⟩
            dsimp only [packV]
            all_goals (first | rfl | (exact fin0_sCheck_ok))
          · -- FFFTF
            refine VO.gy rfl ⟨_, rfl, rfl⟩ (.fa rfl tst90 rfl) ?_
            refine VO.gy rfl ⟨_, rfl, rfl⟩ (.ld1 109 rfl tk3 rfl (cellsAt_one rfl rfl)) ?_
            refine VO.gy rfl ⟨_, rfl, rfl⟩ (.gtr rfl rfl) ?_
            refine VO.y rfl (.pF rfl rfl) ?_
            refine VO.mv ?_
            refine VO.dec (t := 40) rfl (fun hc11 => ?_) (fun hc11 => ?_)
            · -- FFFTFT
              refine VO.gN ?_
              refine VO.gN ?_
              refine VO.gN ?_
              refine VO.gN ?_
              refine VO.gN ?_
              refine VO.y rfl (.pT rfl rfl) ?_
              refine VO.mv ?_
              refine VO.gN ?_
              refine VO.gN ?_
              refine VO.gN ?_
              refine VO.gN ?_
              refine VO.y rfl (.pT rfl rfl) ?_
              refine VO.mv ?_
              refine VO.gN ?_
              refine VO.gN ?_
              refine VO.gN ?_
              refine VO.gn rfl (.inr ⟨_, rfl, rfl⟩) ?_
              refine VO.gn rfl (.inr ⟨_, rfl, rfl⟩) ?_
              refine VO.gn rfl (.inr ⟨_, rfl, rfl⟩) ?_
              refine VO.gN ?_
              refine VO.y rfl (.pT rfl rfl) ?_
              refine VO.k11 0 1 5 6 7 21 23 24 25 26 61 ?_
              refine VC.condT rfl ?_
              refine VC.rs ?_
              refine VO.as ?_
              refine VO.k12 0 1 4 5 6 7 21 23 24 25 26 61 ?_
              refine VC.ret ?_
              refine outR ?_
              refine outBR ?_
              refine outR ?_
              refine outR ?_
              refine outBR ?_
              refine outR ?_
              refine ⟨_, _, res_run (rs := [.tmp 4]) rfl (.tmp rfl .nil), fun W_ hI => out_of (l := []) hI [] rfl rfl (mle_refl _) (fun hS_ => ?_)⟩
              dsimp only [packV]
              all_goals (first | rfl | (exact fin0_sCheck_ok))
            · -- FFFTFF
              refine VO.gy rfl ⟨_, rfl, rfl⟩ (.fa rfl tst90 rfl) ?_
              refine VO.gy rfl ⟨_, rfl, rfl⟩ (.ld1 109 rfl tk3 rfl (cellsAt_one rfl rfl)) ?_
              refine VO.gy rfl ⟨_, rfl, rfl⟩ (.fa rfl tst90 rfl) ?_
              refine VO.gy rfl ⟨_, rfl, rfl⟩ (.ld1 105 rfl tk3 rfl (cellsAt_one rfl rfl)) ?_
              refine VO.gy rfl ⟨_, rfl, rfl⟩ (.leq rfl rfl) ?_
              refine VO.y rfl (.pF rfl rfl) ?_
              refine VO.mv ?_
              refine VO.dec (t := 47) rfl (fun hc12 => ?_) (fun hc12 => ?_)
              · -- FFFTFFT
                refine VO.gN ?_
                refine VO.gN ?_
                refine VO.gN ?_
                refine VO.gN ?_
                refine VO.y rfl (.pT rfl rfl) ?_
                refine VO.mv ?_
                refine VO.gN ?_
                refine VO.gN ?_
                refine VO.gN ?_
                refine VO.gn rfl (.inr ⟨_, rfl, rfl⟩) ?_
                refine VO.gn rfl (.inr ⟨_, rfl, rfl⟩) ?_
                refine VO.gn rfl (.inr ⟨_, rfl, rfl⟩) ?_
                refine VO.gN ?_
                refine VO.y rfl (.pT rfl rfl) ?_
                refine VO.k11 0 1 5 6 7 21 23 24 25 26 61 ?_
                refine VC.condT rfl ?_
                refine VC.rs ?_
                refine VO.as ?_
                refine VO.k12 0 1 4 5 6 7 21 23 24 25 26 61 ?_
                refine VC.ret ?_
                refine outR ?_
                refine outBR ?_
                refine outR ?_
                refine outR ?_
                refine outBR ?_
                refine outR ?_
                refine ⟨_, _, res_run (rs := [.tmp 4]) rfl (.tmp rfl .nil), fun W_ hI => out_of (l := []) hI [] rfl rfl (mle_refl _) (fun hS_ => ?_)⟩
                dsimp only [packV]
                all_goals (first | rfl | (exact fin0_sCheck_ok))
              · -- FFFTFFF
                refine VO.gy rfl ⟨_, rfl, rfl⟩ (.fa rfl tst90 rfl) ?_
                refine VO.gy rfl ⟨_, rfl, rfl⟩ (.ld1 109 rfl tk3 rfl (cellsAt_one rfl rfl)) ?_
                refine VO.gy rfl ⟨_, rfl, rfl⟩ (.mv rfl) ?_
                refine VO.gy rfl ⟨_, rfl, rfl⟩ (.gtr rfl rfl) ?_
                refine VO.y rfl (.pF rfl rfl) ?_
                refine VO.mv ?_
                refine VO.dec (t := 53) rfl (fun hc13 => ?_) (fun hc13 => ?_)
                · -- FFFTFFFT
                  refine VO.gN ?_
                  refine VO.gN ?_
                  refine VO.gN ?_
                  refine VO.gn rfl (.inr ⟨_, rfl, rfl⟩) ?_
                  refine VO.gn rfl (.inr ⟨_, rfl, rfl⟩) ?_
                  refine VO.gn rfl (.inr ⟨_, rfl, rfl⟩) ?_
                  refine VO.gN ?_
                  refine VO.y rfl (.pT rfl rfl) ?_
                  refine VO.k11 0 1 5 6 7 21 23 24 25 26 61 ?_
                  refine VC.condT rfl ?_
                  refine VC.rs ?_
                  refine VO.as ?_
                  refine VO.k12 0 1 4 5 6 7 21 23 24 25 26 61 ?_
                  refine VC.ret ?_
                  refine outR ?_
                  refine outBR ?_
                  refine outR ?_
                  refine outR ?_
                  refine outBR ?_
                  refine outR ?_
                  refine ⟨_, _, res_run (rs := [.tmp 4]) rfl (.tmp rfl .nil), fun W_ hI => out_of (l := []) hI [] rfl rfl (mle_refl _) (fun hS_ => ?_)⟩
                  dsimp only [packV]
                  all_goals (first | rfl | (exact fin0_sCheck_ok))
                · -- FFFTFFFF
                  refine VO.gy rfl ⟨_, rfl, rfl⟩ (.mv rfl) ?_
                  refine VO.gy rfl ⟨_, rfl, rfl⟩ (.eql rfl rfl) ?_
                  refine VO.gy rfl ⟨_, rfl, rfl⟩ (.mv rfl) ?_
                  refine VO.dec (t := 56) rfl (fun hc14 => ?_) (fun hc14 => ?_)
                  · -- FFFTFFFFT
                    refine VO.gy rfl ⟨_, rfl, rfl⟩ (.fa rfl tst90 rfl) ?_
                    refine VO.gy rfl ⟨_, rfl, rfl⟩ (.ld1 109 rfl tk3 rfl (cellsAt_one rfl rfl)) ?_
                    refine VO.gy rfl ⟨_, rfl, rfl⟩ (.neq rfl rfl) ?_
                    refine VO.gy rfl ⟨_, rfl, rfl⟩ (.pT rfl rfl) ?_
                    refine VO.y rfl (.pF rfl rfl) ?_
                    refine VO.k11 0 1 5 6 7 21 23 24 25 26 61 ?_
                    refine VC.cond rfl (fun hc15 => ?_) (fun hc15 => ?_)
                    · -- FFFTFFFFTT
                      refine VC.rs ?_
                      refine VO.as ?_
                      refine VO.k12 0 1 4 5 6 7 21 23 24 25 26 61 ?_
                      refine VC.ret ?_
                      refine outR ?_
                      refine outBR ?_
                      refine outR ?_
                      refine outR ?_
                      refine outBR ?_
                      refine outR ?_
                      refine ⟨_, _, res_run (rs := [.tmp 4]) rfl (.tmp rfl .nil), fun W_ hI => out_of (l := []) hI [] rfl rfl (mle_refl _) (fun hS_ => ?_)⟩
                      dsimp only [packV]
                      all_goals (first | rfl | (exact fin0_sCheck_ok))
                    · -- FFFTFFFFTF
                      refine VC.skip ?_
                      refine outN ?_
                      refine VC.reg ?_
                      refine VO.y rfl (.ldA 109 rfl tk90 rfl (cellsAt_one rfl rfl)) ?_
                      refine VO.store (k := 2) (c' := [Value.int .i64 (x7.1), Value.int .i64 (x7.2)]) 105 rfl rfl (.inl tk90) rfl rfl rfl rfl rfl ?_
                      refine VO.k11 0 1 5 6 7 21 23 24 25 26 61 ?_
                      refine outBN ?_
                      refine outN ?_
                      refine VC.reg ?_
                      refine VO.y rfl (.add (c := ((k + 1 : Nat) : Int)) rfl rfl (by omega) ⟨bd, bd⟩) ?_
                      refine VO.mv ?_
                      refine VO.keep [109, 105, 0] [(109, mone g8 (.cells [Value.int .i64 (x7.1), Value.int .i64 (x7.2)].toArray 90 (0, 0))), (105, mone g4 (.cells [Value.int .i64 (x7.1), Value.int .i64 (x7.2)].toArray 90 (0, 0))), (0, wm W)] (by kernel_rfl) ?_
                      refine VO.k11 0 1 5 6 7 21 23 24 25 26 61 ?_
                      exact outN ⟨⟨k + 1, x7.1, x7.2⟩, ⟨by omega, by dsimp only; exact hs.trans (sGo_step ‹d0[k]? = some _› (by omega) (by omega) (by omega) (by omega) (by omega))⟩, bd, ⟨⟨rfl, rfl, rfl, rfl, rfl, rfl, rfl, trivial⟩, fun _ h => Inv.sub h [105, 0]⟩⟩
                  · -- FFFTFFFFF
                    refine VO.gN ?_
                    refine VO.gN ?_
                    refine VO.gN ?_
                    refine VO.gy rfl ⟨_, rfl, rfl⟩ (.pF rfl rfl) ?_
                    refine VO.y rfl (.pF rfl rfl) ?_
                    refine VO.k11 0 1 5 6 7 21 23 24 25 26 61 ?_
                    refine VC.condF rfl ?_
                    refine VC.skip ?_
                    refine outN ?_
                    refine VC.reg ?_
                    refine VO.y rfl (.ldA 109 rfl tk90 rfl (cellsAt_one rfl rfl)) ?_
                    refine VO.store (k := 2) (c' := [Value.int .i64 (x7.1), Value.int .i64 (x7.2)]) 105 rfl rfl (.inl tk90) rfl rfl rfl rfl rfl ?_
                    refine VO.k11 0 1 5 6 7 21 23 24 25 26 61 ?_
                    refine outBN ?_
                    refine outN ?_
                    refine VC.reg ?_
                    refine VO.y rfl (.add (c := ((k + 1 : Nat) : Int)) rfl rfl (by omega) ⟨bd, bd⟩) ?_
                    refine VO.mv ?_
                    refine VO.keep [109, 105, 0] [(109, mone g8 (.cells [Value.int .i64 (x7.1), Value.int .i64 (x7.2)].toArray 90 (0, 0))), (105, mone g4 (.cells [Value.int .i64 (x7.1), Value.int .i64 (x7.2)].toArray 90 (0, 0))), (0, wm W)] (by kernel_rfl) ?_
                    refine VO.k11 0 1 5 6 7 21 23 24 25 26 61 ?_
                    exact outN ⟨⟨k + 1, x7.1, x7.2⟩, ⟨by omega, by dsimp only; exact hs.trans (sGo_step ‹d0[k]? = some _› (by omega) (by omega) (by omega) (by omega) (by omega))⟩, bd, ⟨⟨rfl, rfl, rfl, rfl, rfl, rfl, rfl, trivial⟩, fun _ h => Inv.sub h [105, 0]⟩⟩
        · -- FFFF
          refine VC.exit ?_
          refine outE ?_
          refine outE ?_
          refine outBB ?_
          refine outN ?_
          refine VC.rs ?_
          refine VO.as ?_
          refine VO.keep [105, 0] [(105, mone g4 (.cells [Value.int .i64 (le), Value.int .i64 (lf)].toArray 90 (0, 0))), (0, wm W)] (by kernel_rfl) ?_
          refine VO.k9 0 1 4 5 21 23 24 25 26 ?_
          refine VC.ret ?_
          refine ⟨_, _, res_run (rs := [.tmp 4]) rfl (.tmp rfl .nil), fun W_ hI => out_of (l := []) hI [] rfl rfl (mle_refl _) (fun hS_ => ?_)⟩
          dsimp only [packV]
          all_goals (first | rfl | (exact fin0_sCheck_ok))
theorem bare_ok (W : World) {v0 : List Value} {d0 : DMessage} (h0 : Rd TMessage (wm W) v0 d0) : CallR Try.prog 147 [.agg v0.toArray] W (mnil) (fun v m' => v = .bool (decide (bareM d0))) := by
  obtain ⟨p0_A4, p0_c4, p0_A7, p0_c7, rfl, p0_0, p0_1, p0_2, p0_3, p0_4, p0_5, p0_6, p0_7⟩ := open_Message (x0 := d0.1) (x1 := d0.2.1) (x2 := d0.2.2.1) (x3 := d0.2.2.2.1) (x4 := d0.2.2.2.2.1) (x5 := d0.2.2.2.2.2.1) (x6 := d0.2.2.2.2.2.2.1) (x7 := d0.2.2.2.2.2.2.2) h0
  simp only [inK] at p0_0
  simp only [inK] at p0_1
  simp only [inK] at p0_2
  simp only [inK] at p0_3
  have p0_r4 := Rd.room p0_4
  simp only [inK] at p0_5
  simp only [inK] at p0_6
  have p0_r7 := Rd.room p0_7
  refine CallR.ofA (n := 33) Try.func147 rfl rfl rfl ?_
  refine VC.rs ?_
  refine VO.box (cs := [Value.int .i64 (d0.1), Value.int .i64 (d0.2.1), Value.int .u8 (d0.2.2.1), Value.int .i64 (d0.2.2.2.1), Value.slice p0_A4 (d0.2.2.2.2.1.length) (p0_c4), Value.int .i64 (d0.2.2.2.2.2.1), Value.int .i64 (d0.2.2.2.2.2.2.1), Value.slice p0_A7 (d0.2.2.2.2.2.2.2.length) (p0_c7)]) 102 rfl rfl rfl (fun g1 => ?_)
  refine VO.as ?_
  refine VO.k3 0 1 2 ?_
  refine VC.rs ?_
  refine VO.y rfl (.fa rfl tst72 rfl) ?_
  refine VO.y rfl (.ld1 102 rfl tk69 rfl (cellsAt_one rfl rfl)) ?_
  refine VO.y rfl (.eql rfl rfl) ?_
  refine VO.mv ?_
  refine VO.dec (t := 6) rfl (fun hc3 => ?_) (fun hc3 => ?_)
  · -- T
    refine VO.gy rfl ⟨_, rfl, rfl⟩ (.fa rfl tst72 rfl) ?_
    refine VO.gy rfl ⟨_, rfl, rfl⟩ (.ld1 102 rfl tk3 rfl (cellsAt_one rfl rfl)) ?_
    refine VO.gy rfl ⟨_, rfl, rfl⟩ (.eql rfl rfl) ?_
    refine VO.y rfl (.pT rfl rfl) ?_
    refine VO.mv ?_
    refine VO.dec (t := 11) rfl (fun hc4 => ?_) (fun hc4 => ?_)
    · -- TT
      refine VO.gy rfl ⟨_, rfl, rfl⟩ (.fa rfl tst72 rfl) ?_
      refine VO.gy rfl ⟨_, rfl, rfl⟩ (.ld1 102 rfl tk70 rfl (cellsAt_one rfl rfl)) ?_
      refine VO.gy rfl ⟨_, rfl, rfl⟩ (.lenS rfl tsl70) ?_
      refine VO.gy rfl ⟨_, rfl, rfl⟩ (.eql rfl rfl) ?_
      refine VO.y rfl (.pT rfl rfl) ?_
      refine VO.mv ?_
      refine VO.dec (t := 17) rfl (fun hc5 => ?_) (fun hc5 => ?_)
      · -- TTT
        refine VO.gy rfl ⟨_, rfl, rfl⟩ (.fa rfl tst72 rfl) ?_
        refine VO.gy rfl ⟨_, rfl, rfl⟩ (.ld1 102 rfl tk3 rfl (cellsAt_one rfl rfl)) ?_
        refine VO.gy rfl ⟨_, rfl, rfl⟩ (.eql rfl rfl) ?_
        refine VO.y rfl (.pT rfl rfl) ?_
        refine VO.mv ?_
        refine VO.dec (t := 22) rfl (fun hc6 => ?_) (fun hc6 => ?_)
        · -- TTTT
          refine VO.gy rfl ⟨_, rfl, rfl⟩ (.fa rfl tst72 rfl) ?_
          refine VO.gy rfl ⟨_, rfl, rfl⟩ (.ld1 102 rfl tk3 rfl (cellsAt_one rfl rfl)) ?_
          refine VO.gy rfl ⟨_, rfl, rfl⟩ (.eql rfl rfl) ?_
          refine VO.y rfl (.pT rfl rfl) ?_
          refine VO.mv ?_
          refine VO.dec (t := 27) rfl (fun hc7 => ?_) (fun hc7 => ?_)
          · -- TTTTT
            refine VO.gy rfl ⟨_, rfl, rfl⟩ (.fa rfl tst72 rfl) ?_
            refine VO.gy rfl ⟨_, rfl, rfl⟩ (.ld1 102 rfl tk61 rfl (cellsAt_one rfl rfl)) ?_
            refine VO.gy rfl ⟨_, rfl, rfl⟩ (.lenS rfl tsl61) ?_
            refine VO.gy rfl ⟨_, rfl, rfl⟩ (.eql rfl rfl) ?_
            refine VO.y rfl (.pT rfl rfl) ?_
            refine VO.as ?_
            refine VO.k3 0 1 2 ?_
            refine VC.ret ?_
            refine ⟨_, _, res_run (rs := [.tmp 2]) rfl (.tmp rfl .nil), fun W_ hI => out_of (l := []) hI [] rfl rfl (mle_refl _) (fun hS_ => ?_)⟩
            dsimp only [packV]
            all_goals (first | rfl | (first | exact congrArg Value.bool (decide_eq_false (by unfold bareM; omega)).symm | exact congrArg Value.bool (decide_eq_decide.2 (by unfold bareM; omega))))
          · -- TTTTF
            refine VO.gN ?_
            refine VO.gN ?_
            refine VO.gN ?_
            refine VO.gN ?_
            refine VO.y rfl (.pF rfl rfl) ?_
            refine VO.as ?_
            refine VO.k3 0 1 2 ?_
            refine VC.ret ?_
            refine ⟨_, _, res_run (rs := [.tmp 2]) rfl (.tmp rfl .nil), fun W_ hI => out_of (l := []) hI [] rfl rfl (mle_refl _) (fun hS_ => ?_)⟩
            dsimp only [packV]
            all_goals (first | rfl | (first | exact congrArg Value.bool (decide_eq_false (by unfold bareM; omega)).symm | exact congrArg Value.bool (decide_eq_decide.2 (by unfold bareM; omega))))
        · -- TTTF
          refine VO.gN ?_
          refine VO.gN ?_
          refine VO.gN ?_
          refine VO.y rfl (.pF rfl rfl) ?_
          refine VO.mv ?_
          refine VO.gN ?_
          refine VO.gN ?_
          refine VO.gN ?_
          refine VO.gN ?_
          refine VO.y rfl (.pF rfl rfl) ?_
          refine VO.as ?_
          refine VO.k3 0 1 2 ?_
          refine VC.ret ?_
          refine ⟨_, _, res_run (rs := [.tmp 2]) rfl (.tmp rfl .nil), fun W_ hI => out_of (l := []) hI [] rfl rfl (mle_refl _) (fun hS_ => ?_)⟩
          dsimp only [packV]
          all_goals (first | rfl | (first | exact congrArg Value.bool (decide_eq_false (by unfold bareM; omega)).symm | exact congrArg Value.bool (decide_eq_decide.2 (by unfold bareM; omega))))
      · -- TTF
        refine VO.gN ?_
        refine VO.gN ?_
        refine VO.gN ?_
        refine VO.y rfl (.pF rfl rfl) ?_
        refine VO.mv ?_
        refine VO.gN ?_
        refine VO.gN ?_
        refine VO.gN ?_
        refine VO.y rfl (.pF rfl rfl) ?_
        refine VO.mv ?_
        refine VO.gN ?_
        refine VO.gN ?_
        refine VO.gN ?_
        refine VO.gN ?_
        refine VO.y rfl (.pF rfl rfl) ?_
        refine VO.as ?_
        refine VO.k3 0 1 2 ?_
        refine VC.ret ?_
        refine ⟨_, _, res_run (rs := [.tmp 2]) rfl (.tmp rfl .nil), fun W_ hI => out_of (l := []) hI [] rfl rfl (mle_refl _) (fun hS_ => ?_)⟩
        dsimp only [packV]
        all_goals (first | rfl | (first | exact congrArg Value.bool (decide_eq_false (by unfold bareM; omega)).symm | exact congrArg Value.bool (decide_eq_decide.2 (by unfold bareM; omega))))
    · -- TF
      refine VO.gN ?_
      refine VO.gN ?_
      refine VO.gN ?_
      refine VO.gN ?_
      refine VO.y rfl (.pF rfl rfl) ?_
      refine VO.mv ?_
      refine VO.gN ?_
      refine VO.gN ?_
      refine VO.gN ?_
      refine VO.y rfl (.pF rfl rfl) ?_
      refine VO.mv ?_
      refine VO.gN ?_
      refine VO.gN ?_
      refine VO.gN ?_
      refine VO.y rfl (.pF rfl rfl) ?_
      refine VO.mv ?_
      refine VO.gN ?_
      refine VO.gN ?_
      refine VO.gN ?_
      refine VO.gN ?_
      refine VO.y rfl (.pF rfl rfl) ?_
      refine VO.as ?_
      refine VO.k3 0 1 2 ?_
      refine VC.ret ?_
      refine ⟨_, _, res_run (rs := [.tmp 2]) rfl (.tmp rfl .nil), fun W_ hI => out_of (l := []) hI [] rfl rfl (mle_refl _) (fun hS_ => ?_)⟩
      dsimp only [packV]
      all_goals (first | rfl | (first | exact congrArg Value.bool (decide_eq_false (by unfold bareM; omega)).symm | exact congrArg Value.bool (decide_eq_decide.2 (by unfold bareM; omega))))
  · -- F
    refine VO.gN ?_
    refine VO.gN ?_
    refine VO.gN ?_
    refine VO.y rfl (.pF rfl rfl) ?_
    refine VO.mv ?_
    refine VO.gN ?_
    refine VO.gN ?_
    refine VO.gN ?_
    refine VO.gN ?_
    refine VO.y rfl (.pF rfl rfl) ?_
    refine VO.mv ?_
    refine VO.gN ?_
    refine VO.gN ?_
    refine VO.gN ?_
    refine VO.y rfl (.pF rfl rfl) ?_
    refine VO.mv ?_
    refine VO.gN ?_
    refine VO.gN ?_
    refine VO.gN ?_
    refine VO.y rfl (.pF rfl rfl) ?_
    refine VO.mv ?_
    refine VO.gN ?_
    refine VO.gN ?_
    refine VO.gN ?_
    refine VO.gN ?_
    refine VO.y rfl (.pF rfl rfl) ?_
    refine VO.as ?_
    refine VO.k3 0 1 2 ?_
    refine VC.ret ?_
    refine ⟨_, _, res_run (rs := [.tmp 2]) rfl (.tmp rfl .nil), fun W_ hI => out_of (l := []) hI [] rfl rfl (mle_refl _) (fun hS_ => ?_)⟩
    dsimp only [packV]
    all_goals (first | rfl | (first | exact congrArg Value.bool (decide_eq_false (by unfold bareM; omega)).symm | exact congrArg Value.bool (decide_eq_decide.2 (by unfold bareM; omega))))
theorem lack_ok (W : World) {v0 : List Value} {d0 : DMessage} (h0 : Rd TMessage (wm W) v0 d0) : CallR Try.prog 127 [.agg v0.toArray] W (mnil) (fun v m' => v = .bool (decide (ackM d0))) := by
  obtain ⟨p0_A4, p0_c4, p0_A7, p0_c7, rfl, p0_0, p0_1, p0_2, p0_3, p0_4, p0_5, p0_6, p0_7⟩ := open_Message (x0 := d0.1) (x1 := d0.2.1) (x2 := d0.2.2.1) (x3 := d0.2.2.2.1) (x4 := d0.2.2.2.2.1) (x5 := d0.2.2.2.2.2.1) (x6 := d0.2.2.2.2.2.2.1) (x7 := d0.2.2.2.2.2.2.2) h0
  simp only [inK] at p0_0
  simp only [inK] at p0_1
  simp only [inK] at p0_2
  simp only [inK] at p0_3
  have p0_r4 := Rd.room p0_4
  simp only [inK] at p0_5
  simp only [inK] at p0_6
  have p0_r7 := Rd.room p0_7
  refine CallR.ofA (n := 13) Try.func127 rfl rfl rfl ?_
  refine VC.rs ?_
  refine VO.box (cs := [Value.int .i64 (d0.1), Value.int .i64 (d0.2.1), Value.int .u8 (d0.2.2.1), Value.int .i64 (d0.2.2.2.1), Value.slice p0_A4 (d0.2.2.2.2.1.length) (p0_c4), Value.int .i64 (d0.2.2.2.2.2.1), Value.int .i64 (d0.2.2.2.2.2.2.1), Value.slice p0_A7 (d0.2.2.2.2.2.2.2.length) (p0_c7)]) 102 rfl rfl rfl (fun g1 => ?_)
  refine VO.as ?_
  refine VO.k3 0 1 2 ?_
  refine VC.rs ?_
  refine VO.y rfl (.fa rfl tst72 rfl) ?_
  refine VO.y rfl (.ld1 102 rfl tk3 rfl (cellsAt_one rfl rfl)) ?_
  refine VO.callN 103 rfl fnOk124 rfl (fun W hW => lwithin_ok W d0.2.2.2.1 bdk 0 bdk 1048576 bdk) (fun v3 m3 hv3 => ?_)
  subst hv3
  refine VO.as ?_
  refine VO.k4 0 1 2 3 ?_
  refine VC.rs ?_
  refine VO.y rfl (.fa rfl tst72 rfl) ?_
  refine VO.store (k := 1) (c' := [Value.int .i64 (d0.1), Value.int .i64 (d0.2.1), Value.int .u8 (d0.2.2.1), Value.int .i64 (0), Value.slice p0_A4 (d0.2.2.2.2.1.length) (p0_c4), Value.int .i64 (d0.2.2.2.2.2.1), Value.int .i64 (d0.2.2.2.2.2.2.1), Value.slice p0_A7 (d0.2.2.2.2.2.2.2.length) (p0_c7)]) 102 rfl rfl (.inr ⟨tk3, rfl⟩) rfl rfl rfl rfl rfl ?_
  refine VO.keep [102, 0] [(102, mone g1 (.cells [Value.int .i64 (d0.1), Value.int .i64 (d0.2.1), Value.int .u8 (d0.2.2.1), Value.int .i64 (0), Value.slice p0_A4 (d0.2.2.2.2.1.length) (p0_c4), Value.int .i64 (d0.2.2.2.2.2.1), Value.int .i64 (d0.2.2.2.2.2.2.1), Value.slice p0_A7 (d0.2.2.2.2.2.2.2.length) (p0_c7)].toArray 72 (0, 0))), (0, wm W)] (by kernel_rfl) ?_
  refine VO.k4 0 1 2 3 ?_
  refine VC.rs ?_
  refine VO.mv ?_
  refine VO.mv ?_
  refine VO.dec (t := 9) rfl (fun hc4 => ?_) (fun hc4 => ?_)
  · -- T
    refine VO.gy rfl ⟨_, rfl, rfl⟩ (.ldA 102 rfl tk72 rfl (cellsAt_one rfl rfl)) ?_
    refine VO.gcallN 105 rfl ⟨_, rfl, rfl⟩ fnOk147 rfl (fun W hW => bare_ok W (mk_Message (m := wm W) d0.1 d0.2.1 d0.2.2.1 0 d0.2.2.2.2.1 d0.2.2.2.2.2.1 d0.2.2.2.2.2.2.1 d0.2.2.2.2.2.2.2 bdk bdk bdk bdk (Rd.mono p0_4 (hW.at (i := 0) rfl)) bdk bdk (Rd.mono p0_7 (hW.at (i := 0) rfl)))) (fun v5 m5 hv5 => ?_)
    try dsimp only at hv5
    subst hv5
    refine VO.y rfl (.pT rfl rfl) ?_
    refine VO.as ?_
    refine VO.k4 0 1 2 3 ?_
    refine VC.ret ?_
    refine ⟨_, _, res_run (rs := [.tmp 2]) rfl (.tmp rfl .nil), fun W_ hI => out_of (l := []) hI [] rfl rfl (mle_refl _) (fun hS_ => ?_)⟩
    dsimp only [packV]
    all_goals (first | rfl | (first | exact congrArg Value.bool (decide_eq_false (by unfold ackM; omega)).symm | exact congrArg Value.bool (decide_eq_decide.2 (ack_iff (by omega)))))
  · -- F
    refine VO.gN ?_
    refine VO.gN ?_
    refine VO.y rfl (.pF rfl rfl) ?_
    refine VO.as ?_
    refine VO.k4 0 1 2 3 ?_
    refine VC.ret ?_
    refine ⟨_, _, res_run (rs := [.tmp 2]) rfl (.tmp rfl .nil), fun W_ hI => out_of (l := []) hI [] rfl rfl (mle_refl _) (fun hS_ => ?_)⟩
    dsimp only [packV]
    all_goals (first | rfl | (first | exact congrArg Value.bool (decide_eq_false (by unfold ackM; omega)).symm | exact congrArg Value.bool (decide_eq_decide.2 (ack_iff (by omega)))))
theorem fin0_lhello_ok {P : Prop} (h : P := by first | exact congrArg Value.bool (decide_eq_false (by unfold helloM; omega)).symm | exact congrArg Value.bool (decide_eq_false (hello_last ‹_› (by omega) (by omega))).symm | exact congrArg Value.bool (decide_eq_decide.2 (hello_iff ⟨by omega, by omega⟩ (by omega) (lastOk_good ‹_› (by omega) (by omega)))) | exact congrArg Value.bool (decide_eq_decide.2 (hello_iff ⟨by omega, by omega⟩ (by omega) (lastOk_nil (by omega))))) : P := h
theorem lhello_ok (W : World) {v0 : List Value} {d0 : DMessage} (h0 : Rd TMessage (wm W) v0 d0) : CallR Try.prog 125 [.agg v0.toArray] W (mnil) (fun v m' => v = .bool (decide (helloM d0))) := by
  obtain ⟨p0_A4, p0_c4, p0_A7, p0_c7, rfl, p0_0, p0_1, p0_2, p0_3, p0_4, p0_5, p0_6, p0_7⟩ := open_Message (x0 := d0.1) (x1 := d0.2.1) (x2 := d0.2.2.1) (x3 := d0.2.2.2.1) (x4 := d0.2.2.2.2.1) (x5 := d0.2.2.2.2.2.1) (x6 := d0.2.2.2.2.2.2.1) (x7 := d0.2.2.2.2.2.2.2) h0
  simp only [inK] at p0_0
  simp only [inK] at p0_1
  simp only [inK] at p0_2
  simp only [inK] at p0_3
  have p0_r4 := Rd.room p0_4
  simp only [inK] at p0_5
  simp only [inK] at p0_6
  have p0_r7 := Rd.room p0_7
  refine CallR.ofA (n := 38) Try.func125 rfl rfl rfl ?_
  refine VC.rs ?_
  refine VO.box (cs := [Value.int .i64 (d0.1), Value.int .i64 (d0.2.1), Value.int .u8 (d0.2.2.1), Value.int .i64 (d0.2.2.2.1), Value.slice p0_A4 (d0.2.2.2.2.1.length) (p0_c4), Value.int .i64 (d0.2.2.2.2.2.1), Value.int .i64 (d0.2.2.2.2.2.2.1), Value.slice p0_A7 (d0.2.2.2.2.2.2.2.length) (p0_c7)]) 102 rfl rfl rfl (fun g1 => ?_)
  refine VO.as ?_
  refine VO.k3 0 1 2 ?_
  refine VC.seq ?_
  refine VC.rs ?_
  refine VO.y rfl (.fa rfl tst72 rfl) ?_
  refine VO.y rfl (.ld1 102 rfl tk69 rfl (cellsAt_one rfl rfl)) ?_
  refine VO.callN 103 rfl fnOk146 rfl (fun W hW => lrole_ok W d0.2.2.1 bdk) (fun v3 m3 hv3 => ?_)
  subst hv3
  refine VO.y rfl (.notD rfl) ?_
  refine VO.mv ?_
  refine VO.dec (t := 8) rfl (fun hc4 => ?_) (fun hc4 => ?_)
  · -- T
    refine VO.gN ?_
    refine VO.gN ?_
    refine VO.gN ?_
    refine VO.gN ?_
    refine VO.gN ?_
    refine VO.gN ?_
    refine VO.y rfl (.pT rfl rfl) ?_
    refine VO.k4 0 1 2 15 ?_
    refine VC.condT rfl ?_
    refine VC.rs ?_
    refine VO.as ?_
    refine VO.keep [102, 0] [(102, mone g1 (.cells [Value.int .i64 (d0.1), Value.int .i64 (d0.2.1), Value.int .u8 (d0.2.2.1), Value.int .i64 (d0.2.2.2.1), Value.slice p0_A4 (d0.2.2.2.2.1.length) (p0_c4), Value.int .i64 (d0.2.2.2.2.2.1), Value.int .i64 (d0.2.2.2.2.2.2.1), Value.slice p0_A7 (d0.2.2.2.2.2.2.2.length) (p0_c7)].toArray 72 (0, 0))), (0, wm W)] (by kernel_rfl) ?_
    refine VO.k4 0 1 2 15 ?_
    refine VC.ret ?_
    refine outR ?_
    refine ⟨_, _, res_run (rs := [.tmp 2]) rfl (.tmp rfl .nil), fun W_ hI => out_of (l := []) hI [] rfl rfl (mle_refl _) (fun hS_ => ?_)⟩
    dsimp only [packV]
    all_goals (first | rfl | (exact fin0_lhello_ok))
  · -- F
    refine VO.gy rfl ⟨_, rfl, rfl⟩ (.fa rfl tst72 rfl) ?_
    refine VO.gy rfl ⟨_, rfl, rfl⟩ (.ld1 102 rfl tk70 rfl (cellsAt_one rfl rfl)) ?_
    refine VO.gy rfl ⟨_, rfl, rfl⟩ (.fa rfl tst72 rfl) ?_
    refine VO.gy rfl ⟨_, rfl, rfl⟩ (.ld1 102 rfl tk3 rfl (cellsAt_one rfl rfl)) ?_
    refine VO.gcallN 105 rfl ⟨_, rfl, rfl⟩ fnOk134 rfl (fun W hW => sCheck_ok W (Rd.mono p0_4 (hW.at (i := 0) rfl)) d0.2.2.2.1 bdk) (fun v5 m5 hv5 => ?_)
    subst hv5
    have hfa6 := sCheck_range d0.2.2.2.2.1 d0.2.2.2.1
    refine VO.gy rfl ⟨_, rfl, rfl⟩ (.neq rfl rfl) ?_
    refine VO.y rfl (.pF rfl rfl) ?_
    refine VO.k4 0 1 2 15 ?_
    refine VC.cond rfl (fun hc7 => ?_) (fun hc7 => ?_)
    · -- FT
      refine VC.rs ?_
      refine VO.as ?_
      refine VO.keep [102, 0] [(102, mone g1 (.cells [Value.int .i64 (d0.1), Value.int .i64 (d0.2.1), Value.int .u8 (d0.2.2.1), Value.int .i64 (d0.2.2.2.1), Value.slice p0_A4 (d0.2.2.2.2.1.length) (p0_c4), Value.int .i64 (d0.2.2.2.2.2.1), Value.int .i64 (d0.2.2.2.2.2.2.1), Value.slice p0_A7 (d0.2.2.2.2.2.2.2.length) (p0_c7)].toArray 72 (0, 0))), (0, wm W)] (by kernel_rfl) ?_
      refine VO.k4 0 1 2 15 ?_
      refine VC.ret ?_
      refine outR ?_
      refine ⟨_, _, res_run (rs := [.tmp 2]) rfl (.tmp rfl .nil), fun W_ hI => out_of (l := []) hI [] rfl rfl (mle_refl _) (fun hS_ => ?_)⟩
      dsimp only [packV]
      all_goals (first | rfl | (exact fin0_lhello_ok))
    · -- FF
      refine VC.skip ?_
      refine outN ?_
      refine VC.seq ?_
      refine VC.rs ?_
      refine VO.y rfl (.fa rfl tst72 rfl) ?_
      refine VO.y rfl (.ld1 102 rfl tk70 rfl (cellsAt_one rfl rfl)) ?_
      refine VO.y rfl (.lenS rfl tsl70) ?_
      refine VO.as ?_
      refine VO.keep [102, 0] [(102, mone g1 (.cells [Value.int .i64 (d0.1), Value.int .i64 (d0.2.1), Value.int .u8 (d0.2.2.1), Value.int .i64 (d0.2.2.2.1), Value.slice p0_A4 (d0.2.2.2.2.1.length) (p0_c4), Value.int .i64 (d0.2.2.2.2.2.1), Value.int .i64 (d0.2.2.2.2.2.2.1), Value.slice p0_A7 (d0.2.2.2.2.2.2.2.length) (p0_c7)].toArray 72 (0, 0))), (0, wm W)] (by kernel_rfl) ?_
      refine VO.k5 0 1 2 3 15 ?_
      refine VC.seq ?_
      refine VC.regD _ 12 [(0, true), (1, true), (2, true), (3, true), (4, true), (5, true), (6, true), (7, true), (8, true), (9, true), (10, true), (11, true)] follows (by kernel_rfl) (fun _ h => h.sub [102, 0]) ?_
      refine VD.y rfl rfl (.inl rfl) (.mv rfl) ?_
      refine VD.y rfl rfl (.inl rfl) (.gtr rfl rfl) ?_
      refine VD.y rfl rfl (.inl rfl) (.mv rfl) ?_
      refine VD.dec (s := 21) rfl (fun hc8 => ?_) (fun hc8 => ?_)
      · -- FFT
        refine VD.y rfl rfl (.inr ⟨_, _, rfl, _, rfl, rfl⟩) (.fa rfl tst72 rfl) ?_
        refine VD.y rfl rfl (.inr ⟨_, _, rfl, _, rfl, rfl⟩) (.ld1 102 rfl tk70 rfl (cellsAt_one rfl rfl)) ?_
        refine VD.y rfl rfl (.inr ⟨_, _, rfl, _, rfl, rfl⟩) (.mv rfl) ?_
        refine VD.y rfl rfl (.inr ⟨_, _, rfl, _, rfl, rfl⟩) (.sub rfl rfl rfl ⟨bd, bd⟩) ?_
        obtain ⟨x9, hx9⟩ : ∃ z_, (d0.2.2.2.2.1)[(((d0.2.2.2.2.1.length : Nat) : Int) - 1).toNat]? = some z_ := ⟨_, List.getElem?_eq_getElem bd⟩
        obtain ⟨gg9, oo9, ec9, ea9, hce9, hre9⟩ := p0_4.elem hx9
        cases ea9
        obtain ⟨rfl, q9_0, q9_1⟩ := open_Start (x0 := x9.1) (x1 := x9.2) hre9
        simp only [inK] at q9_0
        simp only [inK] at q9_1
        refine VD.y rfl rfl (.inr ⟨_, _, rfl, _, rfl, rfl⟩) (.ixI ((((d0.2.2.2.2.1.length : Nat) : Int) - 1).toNat) rfl rfl tsl70 bd bd) ?_
        refine VD.y rfl rfl (.inr ⟨_, _, rfl, _, rfl, rfl⟩) (.fa rfl tst90 rfl) ?_
        refine VD.y rfl rfl (.inr ⟨_, _, rfl, _, rfl, rfl⟩) (.ld1 0 rfl tk3 rfl (hce9.at1 (j := 0) rfl)) ?_
        refine VD.y rfl rfl (.inr ⟨_, _, rfl, _, rfl, rfl⟩) (.fa rfl tst72 rfl) ?_
        refine VD.y rfl rfl (.inr ⟨_, _, rfl, _, rfl, rfl⟩) (.ld1 102 rfl tk3 rfl (cellsAt_one rfl rfl)) ?_
        refine VD.nil rfl ?_ rfl
        refine VO.gy rfl ⟨_, rfl, rfl⟩ (.gtr rfl rfl) ?_
        refine VO.y rfl (.pT rfl rfl) ?_
        refine VO.k6 0 1 2 3 15 32 ?_
        refine outN ?_
        refine VC.cond rfl (fun hc10 => ?_) (fun hc10 => ?_)
        · -- FFTT
          refine VC.rs ?_
          refine VO.as ?_
          refine VO.k6 0 1 2 3 15 32 ?_
          refine VC.ret ?_
          refine outR ?_
          refine ⟨_, _, res_run (rs := [.tmp 2]) rfl (.tmp rfl .nil), fun W_ hI => out_of (l := []) hI [] rfl rfl (mle_refl _) (fun hS_ => ?_)⟩
          dsimp only [packV]
          all_goals (first | rfl | (exact fin0_lhello_ok))
        · -- FFTF
          refine VC.skip ?_
          refine outN ?_
          refine VC.rs ?_
          refine VO.y rfl (.fa rfl tst72 rfl) ?_
          refine VO.store (k := 1) (c' := [Value.int .i64 (d0.1), Value.int .i64 (d0.2.1), Value.int .u8 (0), Value.int .i64 (d0.2.2.2.1), Value.slice (some ⟨gg9, oo9, none⟩) (d0.2.2.2.2.1.length) (p0_c4), Value.int .i64 (d0.2.2.2.2.2.1), Value.int .i64 (d0.2.2.2.2.2.2.1), Value.slice p0_A7 (d0.2.2.2.2.2.2.2.length) (p0_c7)]) 102 rfl rfl (.inr ⟨tk69, rfl⟩) rfl rfl rfl rfl rfl ?_
          refine VO.y rfl (.fa rfl tst72 rfl) ?_
          refine VO.store (k := 1) (c' := [Value.int .i64 (d0.1), Value.int .i64 (d0.2.1), Value.int .u8 (0), Value.int .i64 (0), Value.slice (some ⟨gg9, oo9, none⟩) (d0.2.2.2.2.1.length) (p0_c4), Value.int .i64 (d0.2.2.2.2.2.1), Value.int .i64 (d0.2.2.2.2.2.2.1), Value.slice p0_A7 (d0.2.2.2.2.2.2.2.length) (p0_c7)]) 102 rfl rfl (.inr ⟨tk3, rfl⟩) rfl rfl rfl rfl rfl ?_
          refine VO.y rfl (.fa rfl tst72 rfl) ?_
          refine VO.store (k := 1) (c' := [Value.int .i64 (d0.1), Value.int .i64 (d0.2.1), Value.int .u8 (0), Value.int .i64 (0), Value.slice none (0) (0), Value.int .i64 (d0.2.2.2.2.2.1), Value.int .i64 (d0.2.2.2.2.2.2.1), Value.slice p0_A7 (d0.2.2.2.2.2.2.2.length) (p0_c7)]) 102 rfl rfl (.inr ⟨tk70, rfl⟩) rfl rfl rfl rfl rfl ?_
          refine VO.k6 0 1 2 3 15 32 ?_
          refine VC.rs ?_
          refine VO.y rfl (.ldA 102 rfl tk72 rfl (cellsAt_one rfl rfl)) ?_
          refine VO.callN 111 rfl fnOk147 rfl (fun W hW => bare_ok W (mk_Message (m := wm W) d0.1 d0.2.1 0 0 [] d0.2.2.2.2.2.1 d0.2.2.2.2.2.2.1 d0.2.2.2.2.2.2.2 bdk bdk bdk bdk (Rd.nil _ _ none 0 (Nat.zero_le _)) bdk bdk (Rd.mono p0_7 (hW.at (i := 0) rfl)))) (fun v11 m11 hv11 => ?_)
          try dsimp only at hv11
          subst hv11
          refine VO.as ?_
          refine VO.keep [102, 0] [(102, mone g1 (.cells [Value.int .i64 (d0.1), Value.int .i64 (d0.2.1), Value.int .u8 (0), Value.int .i64 (0), Value.slice none (0) (0), Value.int .i64 (d0.2.2.2.2.2.1), Value.int .i64 (d0.2.2.2.2.2.2.1), Value.slice p0_A7 (d0.2.2.2.2.2.2.2.length) (p0_c7)].toArray 72 (0, 0))), (0, wm W)] (by kernel_rfl) ?_
          refine VO.k6 0 1 2 3 15 32 ?_
          refine VC.ret ?_
          refine ⟨_, _, res_run (rs := [.tmp 2]) rfl (.tmp rfl .nil), fun W_ hI => out_of (l := []) hI [] rfl rfl (mle_refl _) (fun hS_ => ?_)⟩
          dsimp only [packV]
          all_goals (first | rfl | (exact fin0_lhello_ok))
      · -- FFF
        refine VD.gn rfl rfl (.inl ⟨_, rfl, rfl⟩) ?_
        refine VD.gn rfl rfl (.inl ⟨_, rfl, rfl⟩) ?_
        refine VD.gn rfl rfl (.inl ⟨_, rfl, rfl⟩) ?_
        refine VD.gn rfl rfl (.inl ⟨_, rfl, rfl⟩) ?_
        refine VD.gn rfl rfl (.inl ⟨_, rfl, rfl⟩) ?_
        refine VD.gn rfl rfl (.inl ⟨_, rfl, rfl⟩) ?_
        refine VD.gn rfl rfl (.inl ⟨_, rfl, rfl⟩) ?_
        refine VD.gn rfl rfl (.inl ⟨_, rfl, rfl⟩) ?_
        refine VD.gn rfl rfl (.inl ⟨_, rfl, rfl⟩) ?_
        refine VD.nil rfl ?_ rfl
        refine VO.gN ?_
        refine VO.y rfl (.pF rfl rfl) ?_
        refine VO.k6 0 1 2 3 15 32 ?_
        refine outN ?_
        refine VC.condF rfl ?_
        refine VC.skip ?_
        refine outN ?_
        refine VC.rs ?_
        refine VO.y rfl (.fa rfl tst72 rfl) ?_
        refine VO.store (k := 1) (c' := [Value.int .i64 (d0.1), Value.int .i64 (d0.2.1), Value.int .u8 (0), Value.int .i64 (d0.2.2.2.1), Value.slice p0_A4 (d0.2.2.2.2.1.length) (p0_c4), Value.int .i64 (d0.2.2.2.2.2.1), Value.int .i64 (d0.2.2.2.2.2.2.1), Value.slice p0_A7 (d0.2.2.2.2.2.2.2.length) (p0_c7)]) 102 rfl rfl (.inr ⟨tk69, rfl⟩) rfl rfl rfl rfl rfl ?_
        refine VO.y rfl (.fa rfl tst72 rfl) ?_
        refine VO.store (k := 1) (c' := [Value.int .i64 (d0.1), Value.int .i64 (d0.2.1), Value.int .u8 (0), Value.int .i64 (0), Value.slice p0_A4 (d0.2.2.2.2.1.length) (p0_c4), Value.int .i64 (d0.2.2.2.2.2.1), Value.int .i64 (d0.2.2.2.2.2.2.1), Value.slice p0_A7 (d0.2.2.2.2.2.2.2.length) (p0_c7)]) 102 rfl rfl (.inr ⟨tk3, rfl⟩) rfl rfl rfl rfl rfl ?_
        refine VO.y rfl (.fa rfl tst72 rfl) ?_
        refine VO.store (k := 1) (c' := [Value.int .i64 (d0.1), Value.int .i64 (d0.2.1), Value.int .u8 (0), Value.int .i64 (0), Value.slice none (0) (0), Value.int .i64 (d0.2.2.2.2.2.1), Value.int .i64 (d0.2.2.2.2.2.2.1), Value.slice p0_A7 (d0.2.2.2.2.2.2.2.length) (p0_c7)]) 102 rfl rfl (.inr ⟨tk70, rfl⟩) rfl rfl rfl rfl rfl ?_
        refine VO.k6 0 1 2 3 15 32 ?_
        refine VC.rs ?_
        refine VO.y rfl (.ldA 102 rfl tk72 rfl (cellsAt_one rfl rfl)) ?_
        refine VO.callN 112 rfl fnOk147 rfl (fun W hW => bare_ok W (mk_Message (m := wm W) d0.1 d0.2.1 0 0 [] d0.2.2.2.2.2.1 d0.2.2.2.2.2.2.1 d0.2.2.2.2.2.2.2 bdk bdk bdk bdk (Rd.nil _ _ none 0 (Nat.zero_le _)) bdk bdk (Rd.mono p0_7 (hW.at (i := 0) rfl)))) (fun v12 m12 hv12 => ?_)
        try dsimp only at hv12
        subst hv12
        refine VO.as ?_
        refine VO.keep [102, 0] [(102, mone g1 (.cells [Value.int .i64 (d0.1), Value.int .i64 (d0.2.1), Value.int .u8 (0), Value.int .i64 (0), Value.slice none (0) (0), Value.int .i64 (d0.2.2.2.2.2.1), Value.int .i64 (d0.2.2.2.2.2.2.1), Value.slice p0_A7 (d0.2.2.2.2.2.2.2.length) (p0_c7)].toArray 72 (0, 0))), (0, wm W)] (by kernel_rfl) ?_
        refine VO.k6 0 1 2 3 15 32 ?_
        refine VC.ret ?_
        refine ⟨_, _, res_run (rs := [.tmp 2]) rfl (.tmp rfl .nil), fun W_ hI => out_of (l := []) hI [] rfl rfl (mle_refl _) (fun hS_ => ?_)⟩
        dsimp only [packV]
        all_goals (first | rfl | (exact fin0_lhello_ok))
theorem fin0_lship_ok {P : Prop} (h : P := by first | exact congrArg Value.bool (decide_eq_false (by unfold shipM; omega)).symm | exact congrArg Value.bool (decide_eq_false (ship_len ‹_›)).symm | exact congrArg Value.bool (decide_eq_false (fun e => by have := e.2.2.2.2.2.1 _ (List.mem_of_getElem? ‹_[k]? = some _›); omega)).symm | exact congrArg Value.bool (decide_eq_decide.2 (by have ha2 := ha; rw [List.take_of_length_le (by omega)] at ha2; exact ship_iff (by omega) (by omega) ‹¬ ¬ decide _ = decide _› (by omega) (by omega) ha2))) : P := h
theorem lship_ok (W : World) {v0 : List Value} {d0 : DMessage} (h0 : Rd TMessage (wm W) v0 d0) : CallR Try.prog 126 [.agg v0.toArray] W (mnil) (fun v m' => v = .bool (decide (shipM d0))) := by
  obtain ⟨p0_A4, p0_c4, p0_A7, p0_c7, rfl, p0_0, p0_1, p0_2, p0_3, p0_4, p0_5, p0_6, p0_7⟩ := open_Message (x0 := d0.1) (x1 := d0.2.1) (x2 := d0.2.2.1) (x3 := d0.2.2.2.1) (x4 := d0.2.2.2.2.1) (x5 := d0.2.2.2.2.2.1) (x6 := d0.2.2.2.2.2.2.1) (x7 := d0.2.2.2.2.2.2.2) h0
  simp only [inK] at p0_0
  simp only [inK] at p0_1
  simp only [inK] at p0_2
  simp only [inK] at p0_3
  have p0_r4 := Rd.room p0_4
  simp only [inK] at p0_5
  simp only [inK] at p0_6
  have p0_r7 := Rd.room p0_7
  refine CallR.ofA (n := 60) Try.func126 rfl rfl rfl ?_
  refine VC.rs ?_
  refine VO.box (cs := [Value.int .i64 (d0.1), Value.int .i64 (d0.2.1), Value.int .u8 (d0.2.2.1), Value.int .i64 (d0.2.2.2.1), Value.slice p0_A4 (d0.2.2.2.2.1.length) (p0_c4), Value.int .i64 (d0.2.2.2.2.2.1), Value.int .i64 (d0.2.2.2.2.2.2.1), Value.slice p0_A7 (d0.2.2.2.2.2.2.2.length) (p0_c7)]) 102 rfl rfl rfl (fun g1 => ?_)
  refine VO.as ?_
  refine VO.k3 0 1 2 ?_
  refine VC.seq ?_
  refine VC.rs ?_
  refine VO.y rfl (.fa rfl tst72 rfl) ?_
  refine VO.y rfl (.ld1 102 rfl tk3 rfl (cellsAt_one rfl rfl)) ?_
  refine VO.callN 103 rfl fnOk124 rfl (fun W hW => lwithin_ok W d0.2.2.2.2.2.1 bdk 1 bdk 1048576 bdk) (fun v3 m3 hv3 => ?_)
  subst hv3
  refine VO.y rfl (.notD rfl) ?_
  refine VO.mv ?_
  refine VO.dec (t := 9) rfl (fun hc4 => ?_) (fun hc4 => ?_)
  · -- T
    refine VO.gN ?_
    refine VO.gN ?_
    refine VO.gN ?_
    refine VO.gN ?_
    refine VO.gN ?_
    refine VO.gN ?_
    refine VO.y rfl (.pT rfl rfl) ?_
    refine VO.mv ?_
    refine VO.gN ?_
    refine VO.gN ?_
    refine VO.gN ?_
    refine VO.gN ?_
    refine VO.gN ?_
    refine VO.gN ?_
    refine VO.gN ?_
    refine VO.y rfl (.pT rfl rfl) ?_
    refine VO.mv ?_
    refine VO.gN ?_
    refine VO.gN ?_
    refine VO.gN ?_
    refine VO.gN ?_
    refine VO.y rfl (.pT rfl rfl) ?_
    refine VO.k4 0 1 2 31 ?_
    refine VC.condT rfl ?_
    refine VC.rs ?_
    refine VO.as ?_
    refine VO.keep [102, 0] [(102, mone g1 (.cells [Value.int .i64 (d0.1), Value.int .i64 (d0.2.1), Value.int .u8 (d0.2.2.1), Value.int .i64 (d0.2.2.2.1), Value.slice p0_A4 (d0.2.2.2.2.1.length) (p0_c4), Value.int .i64 (d0.2.2.2.2.2.1), Value.int .i64 (d0.2.2.2.2.2.2.1), Value.slice p0_A7 (d0.2.2.2.2.2.2.2.length) (p0_c7)].toArray 72 (0, 0))), (0, wm W)] (by kernel_rfl) ?_
    refine VO.k4 0 1 2 31 ?_
    refine VC.ret ?_
    refine outR ?_
    refine ⟨_, _, res_run (rs := [.tmp 2]) rfl (.tmp rfl .nil), fun W_ hI => out_of (l := []) hI [] rfl rfl (mle_refl _) (fun hS_ => ?_)⟩
    dsimp only [packV]
    all_goals (first | rfl | (exact fin0_lship_ok))
  · -- F
    refine VO.gy rfl ⟨_, rfl, rfl⟩ (.fa rfl tst72 rfl) ?_
    refine VO.gy rfl ⟨_, rfl, rfl⟩ (.ld1 102 rfl tk3 rfl (cellsAt_one rfl rfl)) ?_
    refine VO.gy rfl ⟨_, rfl, rfl⟩ (.fa rfl tst72 rfl) ?_
    refine VO.gy rfl ⟨_, rfl, rfl⟩ (.ld1 102 rfl tk3 rfl (cellsAt_one rfl rfl)) ?_
    refine VO.gcallN 105 rfl ⟨_, rfl, rfl⟩ fnOk124 rfl (fun W hW => lwithin_ok W d0.2.2.2.2.2.2.1 bdk 0 bdk d0.2.1 bdk) (fun v5 m5 hv5 => ?_)
    subst hv5
    refine VO.gy rfl ⟨_, rfl, rfl⟩ (.notD rfl) ?_
    refine VO.y rfl (.pF rfl rfl) ?_
    refine VO.mv ?_
    refine VO.dec (t := 17) rfl (fun hc6 => ?_) (fun hc6 => ?_)
    · -- FT
      refine VO.gN ?_
      refine VO.gN ?_
      refine VO.gN ?_
      refine VO.gN ?_
      refine VO.gN ?_
      refine VO.gN ?_
      refine VO.gN ?_
      refine VO.y rfl (.pT rfl rfl) ?_
      refine VO.mv ?_
      refine VO.gN ?_
      refine VO.gN ?_
      refine VO.gN ?_
      refine VO.gN ?_
      refine VO.y rfl (.pT rfl rfl) ?_
      refine VO.k4 0 1 2 31 ?_
      refine VC.condT rfl ?_
      refine VC.rs ?_
      refine VO.as ?_
      refine VO.keep [102, 0] [(102, mone g1 (.cells [Value.int .i64 (d0.1), Value.int .i64 (d0.2.1), Value.int .u8 (d0.2.2.1), Value.int .i64 (d0.2.2.2.1), Value.slice p0_A4 (d0.2.2.2.2.1.length) (p0_c4), Value.int .i64 (d0.2.2.2.2.2.1), Value.int .i64 (d0.2.2.2.2.2.2.1), Value.slice p0_A7 (d0.2.2.2.2.2.2.2.length) (p0_c7)].toArray 72 (0, 0))), (0, wm W)] (by kernel_rfl) ?_
      refine VO.k4 0 1 2 31 ?_
      refine VC.ret ?_
      refine outR ?_
      refine ⟨_, _, res_run (rs := [.tmp 2]) rfl (.tmp rfl .nil), fun W_ hI => out_of (l := []) hI [] rfl rfl (mle_refl _) (fun hS_ => ?_)⟩
      dsimp only [packV]
      all_goals (first | rfl | (exact fin0_lship_ok))
    · -- FF
      refine VO.gy rfl ⟨_, rfl, rfl⟩ (.fa rfl tst72 rfl) ?_
      refine VO.gy rfl ⟨_, rfl, rfl⟩ (.ld1 102 rfl tk3 rfl (cellsAt_one rfl rfl)) ?_
      refine VO.gy rfl ⟨_, rfl, rfl⟩ (.eql rfl rfl) ?_
      refine VO.gy rfl ⟨_, rfl, rfl⟩ (.fa rfl tst72 rfl) ?_
      refine VO.gy rfl ⟨_, rfl, rfl⟩ (.ld1 102 rfl tk3 rfl (cellsAt_one rfl rfl)) ?_
      refine VO.gy rfl ⟨_, rfl, rfl⟩ (.eql rfl rfl) ?_
      refine VO.gy rfl ⟨_, rfl, rfl⟩ (.bneq rfl rfl Try.underlying4) ?_
      refine VO.y rfl (.pF rfl rfl) ?_
      refine VO.mv ?_
      refine VO.dec (t := 26) rfl (fun hc7 => ?_) (fun hc7 => ?_)
      · -- FFT
        refine VO.gN ?_
        refine VO.gN ?_
        refine VO.gN ?_
        refine VO.gN ?_
        refine VO.y rfl (.pT rfl rfl) ?_
        refine VO.k4 0 1 2 31 ?_
        refine VC.condT rfl ?_
        refine VC.rs ?_
        refine VO.as ?_
        refine VO.keep [102, 0] [(102, mone g1 (.cells [Value.int .i64 (d0.1), Value.int .i64 (d0.2.1), Value.int .u8 (d0.2.2.1), Value.int .i64 (d0.2.2.2.1), Value.slice p0_A4 (d0.2.2.2.2.1.length) (p0_c4), Value.int .i64 (d0.2.2.2.2.2.1), Value.int .i64 (d0.2.2.2.2.2.2.1), Value.slice p0_A7 (d0.2.2.2.2.2.2.2.length) (p0_c7)].toArray 72 (0, 0))), (0, wm W)] (by kernel_rfl) ?_
        refine VO.k4 0 1 2 31 ?_
        refine VC.ret ?_
        refine outR ?_
        refine ⟨_, _, res_run (rs := [.tmp 2]) rfl (.tmp rfl .nil), fun W_ hI => out_of (l := []) hI [] rfl rfl (mle_refl _) (fun hS_ => ?_)⟩
        dsimp only [packV]
        all_goals (first | rfl | (exact fin0_lship_ok))
      · -- FFF
        refine VO.gy rfl ⟨_, rfl, rfl⟩ (.fa rfl tst72 rfl) ?_
        refine VO.gy rfl ⟨_, rfl, rfl⟩ (.ld1 102 rfl tk61 rfl (cellsAt_one rfl rfl)) ?_
        refine VO.gy rfl ⟨_, rfl, rfl⟩ (.lenS rfl tsl61) ?_
        refine VO.gy rfl ⟨_, rfl, rfl⟩ (.gtr rfl rfl) ?_
        refine VO.y rfl (.pF rfl rfl) ?_
        refine VO.k4 0 1 2 31 ?_
        refine VC.cond rfl (fun hc8 => ?_) (fun hc8 => ?_)
        · -- FFFT
          refine VC.rs ?_
          refine VO.as ?_
          refine VO.keep [102, 0] [(102, mone g1 (.cells [Value.int .i64 (d0.1), Value.int .i64 (d0.2.1), Value.int .u8 (d0.2.2.1), Value.int .i64 (d0.2.2.2.1), Value.slice p0_A4 (d0.2.2.2.2.1.length) (p0_c4), Value.int .i64 (d0.2.2.2.2.2.1), Value.int .i64 (d0.2.2.2.2.2.2.1), Value.slice p0_A7 (d0.2.2.2.2.2.2.2.length) (p0_c7)].toArray 72 (0, 0))), (0, wm W)] (by kernel_rfl) ?_
          refine VO.k4 0 1 2 31 ?_
          refine VC.ret ?_
          refine outR ?_
          refine ⟨_, _, res_run (rs := [.tmp 2]) rfl (.tmp rfl .nil), fun W_ hI => out_of (l := []) hI [] rfl rfl (mle_refl _) (fun hS_ => ?_)⟩
          dsimp only [packV]
          all_goals (first | rfl | (exact fin0_lship_ok))
        · -- FFFF
          refine VC.skip ?_
          refine outN ?_
          refine VC.seq ?_
          refine VC.rs ?_
          refine VO.y rfl (.fa rfl tst72 rfl) ?_
          refine VO.y rfl (.ld1 102 rfl tk3 rfl (cellsAt_one rfl rfl)) ?_
          refine VO.y rfl (.fa rfl tst72 rfl) ?_
          refine VO.y rfl (.ld1 102 rfl tk3 rfl (cellsAt_one rfl rfl)) ?_
          refine VO.y rfl (.sub rfl rfl rfl ⟨bd, bd⟩) ?_
          refine VO.y rfl (.fa rfl tst72 rfl) ?_
          refine VO.y rfl (.ld1 102 rfl tk61 rfl (cellsAt_one rfl rfl)) ?_
          refine VO.callN 109 rfl fnOk52 rfl (fun W hW => follows_ok W d0.2.2.2.2.2.2.1 bdk (d0.2.2.2.2.2.1 - 1) bdk (Rd.mono p0_7 (hW.at (i := 0) rfl))) (fun v9 m9 hv9 => ?_)
          obtain ⟨s9_0, rfl, f9_0⟩ := hv9
          obtain ⟨rfl, q9_0_0, q9_0_1⟩ := open_Fault (x0 := (cFollows d0.2.2.2.2.2.2.1 (d0.2.2.2.2.2.1 - 1) d0.2.2.2.2.2.2.2).1) (x1 := (cFollows d0.2.2.2.2.2.2.1 (d0.2.2.2.2.2.1 - 1) d0.2.2.2.2.2.2.2).2) (f9_0.rd (mle_refl _))
          simp only [inK] at q9_0_0
          simp only [inK] at q9_0_1
          refine VO.y rfl (.fld1 rfl tst57 rfl tfk57_0 rfl) ?_
          refine VO.y rfl (.neq rfl rfl) ?_
          refine VO.keep [102, 0] [(102, mone g1 (.cells [Value.int .i64 (d0.1), Value.int .i64 (d0.2.1), Value.int .u8 (d0.2.2.1), Value.int .i64 (d0.2.2.2.1), Value.slice p0_A4 (d0.2.2.2.2.1.length) (p0_c4), Value.int .i64 (d0.2.2.2.2.2.1), Value.int .i64 (d0.2.2.2.2.2.2.1), Value.slice p0_A7 (d0.2.2.2.2.2.2.2.length) (p0_c7)].toArray 72 (0, 0))), (0, wm W)] (by kernel_rfl) ?_
          refine VO.k5 0 1 2 31 41 ?_
          refine VC.cond rfl (fun hc10 => ?_) (fun hc10 => ?_)
          · -- FFFFT
            refine VC.rs ?_
            refine VO.as ?_
            refine VO.k5 0 1 2 31 41 ?_
            refine VC.ret ?_
            refine outR ?_
            refine ⟨_, _, res_run (rs := [.tmp 2]) rfl (.tmp rfl .nil), fun W_ hI => out_of (l := []) hI [] rfl rfl (mle_refl _) (fun hS_ => ?_)⟩
            dsimp only [packV]
            all_goals (first | rfl | (exact fin0_lship_ok))
          · -- FFFFF
            refine VC.skip ?_
            refine outN ?_
            refine VC.seq ?_
            refine VC.rs ?_
            refine VO.y rfl (.fa rfl tst72 rfl) ?_
            refine VO.y rfl (.ld1 102 rfl tk61 rfl (cellsAt_one rfl rfl)) ?_
            refine VO.y rfl (.lenS rfl tsl61) ?_
            refine VO.mv ?_
            refine VO.k8 0 1 2 31 41 43 44 45 ?_
            refine VC.block ?_
            refine VC.loop (G := Nat) (fun k => [(45, Value.int .i64 (((k : Nat) : Int))), (0, Value.agg [Value.int .i64 (d0.1), Value.int .i64 (d0.2.1), Value.int .u8 (d0.2.2.1), Value.int .i64 (d0.2.2.2.1), Value.slice p0_A4 (d0.2.2.2.2.1.length) (p0_c4), Value.int .i64 (d0.2.2.2.2.2.1), Value.int .i64 (d0.2.2.2.2.2.2.1), Value.slice p0_A7 (d0.2.2.2.2.2.2.2.length) (p0_c7)].toArray), (1, Value.pointer (some ⟨g1, 0, none⟩)), (31, Value.bool (decide (4 < ((d0.2.2.2.2.2.2.2.length : Nat) : Int)))), (41, Value.bool (decide (¬ ((cFollows d0.2.2.2.2.2.2.1 (d0.2.2.2.2.2.1 - 1) d0.2.2.2.2.2.2.2).1) = 0))), (43, Value.slice p0_A7 (d0.2.2.2.2.2.2.2.length) (p0_c7)), (44, Value.int .i64 (((d0.2.2.2.2.2.2.2.length : Nat) : Int)))]) (fun k => [(102, mone g1 (.cells [Value.int .i64 (d0.1), Value.int .i64 (d0.2.1), Value.int .u8 (d0.2.2.1), Value.int .i64 (d0.2.2.2.1), Value.slice p0_A4 (d0.2.2.2.2.1.length) (p0_c4), Value.int .i64 (d0.2.2.2.2.2.1), Value.int .i64 (d0.2.2.2.2.2.2.1), Value.slice p0_A7 (d0.2.2.2.2.2.2.2.length) (p0_c7)].toArray 72 (0, 0))), (0, wm W)]) (fun k => (k ≤ d0.2.2.2.2.2.2.2.length) ∧ (∀ c ∈ d0.2.2.2.2.2.2.2.take k, c.1 ≤ d0.2.1)) (fun k => d0.2.2.2.2.2.2.2.length - k) 0 (⟨by omega, by simp⟩) ⟨⟨rfl, rfl, rfl, rfl, rfl, rfl, rfl, trivial⟩, fun _ h => h.sub [102, 0]⟩ ?_
            rintro k ⟨hk, ha⟩
            refine VC.rs ?_
            refine VO.y rfl (.lss rfl rfl) ?_
            refine VO.k8 0 1 31 41 43 44 45 46 ?_
            refine VC.seq ?_
            refine VC.cond rfl (fun hc11 => ?_) (fun hc11 => ?_)
            · -- FFFFFT
              refine VC.skip ?_
              refine outN ?_
              refine VC.seq ?_
              refine VC.block ?_
              refine VC.rs ?_
              obtain ⟨x12, hx12⟩ : ∃ z_, (d0.2.2.2.2.2.2.2)[k]? = some z_ := ⟨_, List.getElem?_eq_getElem bd⟩
              obtain ⟨gg12, oo12, ec12, ea12, hce12, hre12⟩ := p0_7.elem hx12
              cases ea12
              obtain ⟨q12_A2, q12_c2, rfl, q12_0, q12_1, q12_2⟩ := open_Commit (x0 := x12.1) (x1 := x12.2.1) (x2 := x12.2.2) hre12
              simp only [inK] at q12_0
              simp only [inK] at q12_1
              have q12_r2 := Rd.room q12_2
              refine VO.y rfl (.ixI k rfl rfl tsl61 rfl bd) ?_
              refine VO.y rfl (.ldA 0 rfl tk52 rfl hce12) ?_
              refine VO.alloc 114 rfl tz52 (fun g13 => ?_)
              refine VO.store (k := 3) (c' := [Value.int .i64 (x12.1), Value.int .i64 (x12.2.1), Value.slice q12_A2 (x12.2.2.length) (q12_c2)]) 114 rfl rfl (.inl tk52) rfl rfl rfl rfl rfl ?_
              refine VO.keep [114, 102, 0] [(114, mone g13 (.cells [Value.int .i64 (x12.1), Value.int .i64 (x12.2.1), Value.slice q12_A2 (x12.2.2.length) (q12_c2)].toArray 52 (0, 0))), (102, mone g1 (.cells [Value.int .i64 (d0.1), Value.int .i64 (d0.2.1), Value.int .u8 (d0.2.2.1), Value.int .i64 (d0.2.2.2.1), Value.slice p0_A4 (d0.2.2.2.2.1.length) (p0_c4), Value.int .i64 (d0.2.2.2.2.2.1), Value.int .i64 (d0.2.2.2.2.2.2.1), Value.slice (some ⟨gg12, oo12, none⟩) (d0.2.2.2.2.2.2.2.length) (p0_c7)].toArray 72 (0, 0))), (0, wm W)] (by kernel_rfl) ?_
              refine VO.k9 0 1 4 31 41 43 44 45 46 ?_
              refine VC.rs ?_
              refine VO.y rfl (.fa rfl tst52 rfl) ?_
              refine VO.y rfl (.ld1 114 rfl tk3 rfl (cellsAt_one rfl rfl)) ?_
              refine VO.y rfl (.fa rfl tst72 rfl) ?_
              refine VO.y rfl (.ld1 102 rfl tk3 rfl (cellsAt_one rfl rfl)) ?_
              refine VO.y rfl (.gtr rfl rfl) ?_
              refine VO.k10 0 1 4 31 41 43 44 45 46 53 ?_
              refine VC.cond rfl (fun hc15 => ?_) (fun hc15 => ?_)
              · -- FFFFFTT
                refine VC.rs ?_
                refine VO.as ?_
                refine VO.k11 0 1 2 4 31 41 43 44 45 46 53 ?_
                refine VC.ret ?_
                refine outBR ?_
                refine outR ?_
                refine outR ?_
                refine outBR ?_
                refine outR ?_
                refine ⟨_, _, res_run (rs := [.tmp 2]) rfl (.tmp rfl .nil), fun W_ hI => out_of (l := []) hI [] rfl rfl (mle_refl _) (fun hS_ => ?_)⟩
                dsimp only [packV]
                all_goals (first | rfl | (exact fin0_lship_ok))
              · -- FFFFFTF
                refine VC.skip ?_
                refine outBN ?_
                refine outN ?_
                refine VC.reg ?_
                refine VO.y rfl (.add (c := ((k + 1 : Nat) : Int)) rfl rfl (by omega) ⟨bd, bd⟩) ?_
                refine VO.mv ?_
                refine VO.k10 0 1 4 31 41 43 44 45 46 53 ?_
                exact outN ⟨k + 1, ⟨by omega, by exact all_next ha ‹_› (by omega)⟩, bd, ⟨⟨rfl, rfl, rfl, rfl, rfl, rfl, rfl, trivial⟩, fun _ h => Inv.sub h [102, 0]⟩⟩
            · -- FFFFFF
              refine VC.exit ?_
              refine outE ?_
              refine outE ?_
              refine outBB ?_
              refine outN ?_
              refine VC.rs ?_
              refine VO.y rfl (.fa rfl tst72 rfl) ?_
              refine VO.store (k := 1) (c' := [Value.int .i64 (d0.1), Value.int .i64 (d0.2.1), Value.int .u8 (d0.2.2.1), Value.int .i64 (d0.2.2.2.1), Value.slice p0_A4 (d0.2.2.2.2.1.length) (p0_c4), Value.int .i64 (0), Value.int .i64 (d0.2.2.2.2.2.2.1), Value.slice p0_A7 (d0.2.2.2.2.2.2.2.length) (p0_c7)]) 102 rfl rfl (.inr ⟨tk3, rfl⟩) rfl rfl rfl rfl rfl ?_
              refine VO.y rfl (.fa rfl tst72 rfl) ?_
              refine VO.store (k := 1) (c' := [Value.int .i64 (d0.1), Value.int .i64 (d0.2.1), Value.int .u8 (d0.2.2.1), Value.int .i64 (d0.2.2.2.1), Value.slice p0_A4 (d0.2.2.2.2.1.length) (p0_c4), Value.int .i64 (0), Value.int .i64 (0), Value.slice p0_A7 (d0.2.2.2.2.2.2.2.length) (p0_c7)]) 102 rfl rfl (.inr ⟨tk3, rfl⟩) rfl rfl rfl rfl rfl ?_
              refine VO.y rfl (.fa rfl tst72 rfl) ?_
              refine VO.store (k := 1) (c' := [Value.int .i64 (d0.1), Value.int .i64 (d0.2.1), Value.int .u8 (d0.2.2.1), Value.int .i64 (d0.2.2.2.1), Value.slice p0_A4 (d0.2.2.2.2.1.length) (p0_c4), Value.int .i64 (0), Value.int .i64 (0), Value.slice none (0) (0)]) 102 rfl rfl (.inr ⟨tk61, rfl⟩) rfl rfl rfl rfl rfl ?_
              refine VO.keep [102, 0] [(102, mone g1 (.cells [Value.int .i64 (d0.1), Value.int .i64 (d0.2.1), Value.int .u8 (d0.2.2.1), Value.int .i64 (d0.2.2.2.1), Value.slice p0_A4 (d0.2.2.2.2.1.length) (p0_c4), Value.int .i64 (0), Value.int .i64 (0), Value.slice none (0) (0)].toArray 72 (0, 0))), (0, wm W)] (by kernel_rfl) ?_
              refine VO.k8 0 1 31 41 43 44 45 46 ?_
              refine VC.rs ?_
              refine VO.y rfl (.ldA 102 rfl tk72 rfl (cellsAt_one rfl rfl)) ?_
              refine VO.callN 116 rfl fnOk147 rfl (fun W hW => bare_ok W (mk_Message (m := wm W) d0.1 d0.2.1 d0.2.2.1 d0.2.2.2.1 d0.2.2.2.2.1 0 0 [] bdk bdk bdk bdk (Rd.mono p0_4 (hW.at (i := 0) rfl)) bdk bdk (Rd.nil _ _ none 0 (Nat.zero_le _)))) (fun v16 m16 hv16 => ?_)
              try dsimp only at hv16
              subst hv16
              refine VO.as ?_
              refine VO.k9 0 1 2 31 41 43 44 45 46 ?_
              refine VC.ret ?_
              refine ⟨_, _, res_run (rs := [.tmp 2]) rfl (.tmp rfl .nil), fun W_ hI => out_of (l := []) hI [] rfl rfl (mle_refl _) (fun hS_ => ?_)⟩
              dsimp only [packV]
              all_goals (first | rfl | (exact fin0_lship_ok))
theorem fin0_lCheck_ok {P : Prop} (h : P := by congr 1; first | exact (lCheck_good ⟨by omega, .inl ⟨by omega, Decidable.not_not.1 ‹¬ ¬ helloM d0›⟩⟩).symm | exact (lCheck_good ⟨by omega, .inr (.inl ⟨by omega, Decidable.not_not.1 ‹¬ ¬ shipM d0›⟩)⟩).symm | exact (lCheck_good ⟨by omega, .inr (.inr ⟨by omega, Decidable.not_not.1 ‹¬ ¬ ackM d0›⟩)⟩).symm | exact (lCheck_bad (by rintro ⟨e0, e | e | e⟩ <;> first | omega | exact absurd e.2 ‹_›)).symm) : P := h
theorem lCheck_ok (W : World) {v0 : List Value} {d0 : DMessage} (h0 : Rd TMessage (wm W) v0 d0) : CallR Try.prog 87 [.agg v0.toArray] W (mnil) (fun v m' => v = .int .i64 (lCheck d0)) := by
  obtain ⟨p0_A4, p0_c4, p0_A7, p0_c7, rfl, p0_0, p0_1, p0_2, p0_3, p0_4, p0_5, p0_6, p0_7⟩ := open_Message (x0 := d0.1) (x1 := d0.2.1) (x2 := d0.2.2.1) (x3 := d0.2.2.2.1) (x4 := d0.2.2.2.2.1) (x5 := d0.2.2.2.2.2.1) (x6 := d0.2.2.2.2.2.2.1) (x7 := d0.2.2.2.2.2.2.2) h0
  simp only [inK] at p0_0
  simp only [inK] at p0_1
  simp only [inK] at p0_2
  simp only [inK] at p0_3
  have p0_r4 := Rd.room p0_4
  simp only [inK] at p0_5
  simp only [inK] at p0_6
  have p0_r7 := Rd.room p0_7
  refine CallR.ofA (n := 32) Try.func87 rfl rfl rfl ?_
  refine VC.rs ?_
  refine VO.box (cs := [Value.int .i64 (d0.1), Value.int .i64 (d0.2.1), Value.int .u8 (d0.2.2.1), Value.int .i64 (d0.2.2.2.1), Value.slice p0_A4 (d0.2.2.2.2.1.length) (p0_c4), Value.int .i64 (d0.2.2.2.2.2.1), Value.int .i64 (d0.2.2.2.2.2.2.1), Value.slice p0_A7 (d0.2.2.2.2.2.2.2.length) (p0_c7)]) 102 rfl rfl rfl (fun g1 => ?_)
  refine VO.as ?_
  refine VO.k3 0 1 2 ?_
  refine VC.rs ?_
  refine VO.y rfl (.fa rfl tst72 rfl) ?_
  refine VO.y rfl (.ld1 102 rfl tk3 rfl (cellsAt_one rfl rfl)) ?_
  refine VO.callN 103 rfl fnOk124 rfl (fun W hW => lwithin_ok W d0.2.1 bdk 1 bdk 1048576 bdk) (fun v3 m3 hv3 => ?_)
  subst hv3
  refine VO.as ?_
  refine VO.k4 0 1 2 3 ?_
  refine VC.seq ?_
  refine VC.rs ?_
  refine VO.y rfl (.fa rfl tst72 rfl) ?_
  refine VO.y rfl (.ld1 102 rfl tk3 rfl (cellsAt_one rfl rfl)) ?_
  refine VO.keep [102, 0] [(102, mone g1 (.cells [Value.int .i64 (d0.1), Value.int .i64 (d0.2.1), Value.int .u8 (d0.2.2.1), Value.int .i64 (d0.2.2.2.1), Value.slice p0_A4 (d0.2.2.2.2.1.length) (p0_c4), Value.int .i64 (d0.2.2.2.2.2.1), Value.int .i64 (d0.2.2.2.2.2.2.1), Value.slice p0_A7 (d0.2.2.2.2.2.2.2.length) (p0_c7)].toArray 72 (0, 0))), (0, wm W)] (by kernel_rfl) ?_
  refine VO.k5 0 1 2 3 8 ?_
  refine VC.block ?_
  refine VC.rs ?_
  refine VO.y rfl (.eql rfl rfl) ?_
  refine VO.as ?_
  refine VO.k6 0 1 2 3 8 9 ?_
  refine VC.cond rfl (fun hc4 => ?_) (fun hc4 => ?_)
  · -- T
    refine VC.reg ?_
    refine VO.mv ?_
    refine VO.mv ?_
    refine VO.dec (t := 12) rfl (fun hc5 => ?_) (fun hc5 => ?_)
    · -- TT
      refine VO.gy rfl ⟨_, rfl, rfl⟩ (.ldA 102 rfl tk72 rfl (cellsAt_one rfl rfl)) ?_
      refine VO.gcallN 106 rfl ⟨_, rfl, rfl⟩ fnOk125 rfl (fun W hW => lhello_ok W (Rd.mono h0 (hW.at (i := 0) rfl))) (fun v6 m6 hv6 => ?_)
      subst hv6
      refine VO.y rfl (.pT rfl rfl) ?_
      refine VO.as ?_
      refine VO.k6 0 1 2 3 8 9 ?_
      refine outBN ?_
      refine outN ?_
      refine VC.seq ?_
      refine VC.rs ?_
      refine VO.mv ?_
      refine VO.y rfl (.notD rfl) ?_
      refine VO.keep [102, 0] [(102, mone g1 (.cells [Value.int .i64 (d0.1), Value.int .i64 (d0.2.1), Value.int .u8 (d0.2.2.1), Value.int .i64 (d0.2.2.2.1), Value.slice p0_A4 (d0.2.2.2.2.1.length) (p0_c4), Value.int .i64 (d0.2.2.2.2.2.1), Value.int .i64 (d0.2.2.2.2.2.2.1), Value.slice p0_A7 (d0.2.2.2.2.2.2.2.length) (p0_c7)].toArray 72 (0, 0))), (0, wm W)] (by kernel_rfl) ?_
      refine VO.k7 0 1 2 3 8 9 31 ?_
      refine VC.cond rfl (fun hc7 => ?_) (fun hc7 => ?_)
      · -- TTT
        refine VC.rs ?_
        refine VO.as ?_
        refine VO.k7 0 1 2 3 8 9 31 ?_
        refine VC.ret ?_
        refine outR ?_
        refine ⟨_, _, res_run (rs := [.tmp 2]) rfl (.tmp rfl .nil), fun W_ hI => out_of (l := []) hI [] rfl rfl (mle_refl _) (fun hS_ => ?_)⟩
        dsimp only [packV]
        all_goals (first | rfl | (exact fin0_lCheck_ok))
      · -- TTF
        refine VC.skip ?_
        refine outN ?_
        refine VC.rs ?_
        refine VO.as ?_
        refine VO.k7 0 1 2 3 8 9 31 ?_
        refine VC.ret ?_
        refine ⟨_, _, res_run (rs := [.tmp 2]) rfl (.tmp rfl .nil), fun W_ hI => out_of (l := []) hI [] rfl rfl (mle_refl _) (fun hS_ => ?_)⟩
        dsimp only [packV]
        all_goals (first | rfl | (exact fin0_lCheck_ok))
    · -- TF
      refine VO.gN ?_
      refine VO.gN ?_
      refine VO.y rfl (.pF rfl rfl) ?_
      refine VO.as ?_
      refine VO.k6 0 1 2 3 8 9 ?_
      refine outBN ?_
      refine outN ?_
      refine VC.seq ?_
      refine VC.rs ?_
      refine VO.mv ?_
      refine VO.y rfl (.not rfl) ?_
      refine VO.keep [102, 0] [(102, mone g1 (.cells [Value.int .i64 (d0.1), Value.int .i64 (d0.2.1), Value.int .u8 (d0.2.2.1), Value.int .i64 (d0.2.2.2.1), Value.slice p0_A4 (d0.2.2.2.2.1.length) (p0_c4), Value.int .i64 (d0.2.2.2.2.2.1), Value.int .i64 (d0.2.2.2.2.2.2.1), Value.slice p0_A7 (d0.2.2.2.2.2.2.2.length) (p0_c7)].toArray 72 (0, 0))), (0, wm W)] (by kernel_rfl) ?_
      refine VO.k7 0 1 2 3 8 9 31 ?_
      refine VC.condT rfl ?_
      refine VC.rs ?_
      refine VO.as ?_
      refine VO.k7 0 1 2 3 8 9 31 ?_
      refine VC.ret ?_
      refine outR ?_
      refine ⟨_, _, res_run (rs := [.tmp 2]) rfl (.tmp rfl .nil), fun W_ hI => out_of (l := []) hI [] rfl rfl (mle_refl _) (fun hS_ => ?_)⟩
      dsimp only [packV]
      all_goals (first | rfl | (exact fin0_lCheck_ok))
  · -- F
    refine VC.rs ?_
    refine VO.y rfl (.eql rfl rfl) ?_
    refine VO.as ?_
    refine VO.k7 0 1 2 3 8 9 16 ?_
    refine VC.cond rfl (fun hc8 => ?_) (fun hc8 => ?_)
    · -- FT
      refine VC.reg ?_
      refine VO.mv ?_
      refine VO.mv ?_
      refine VO.dec (t := 19) rfl (fun hc9 => ?_) (fun hc9 => ?_)
      · -- FTT
        refine VO.gy rfl ⟨_, rfl, rfl⟩ (.ldA 102 rfl tk72 rfl (cellsAt_one rfl rfl)) ?_
        refine VO.gcallN 110 rfl ⟨_, rfl, rfl⟩ fnOk126 rfl (fun W hW => lship_ok W (Rd.mono h0 (hW.at (i := 0) rfl))) (fun v10 m10 hv10 => ?_)
        subst hv10
        refine VO.y rfl (.pT rfl rfl) ?_
        refine VO.as ?_
        refine VO.keep [102, 0] [(102, mone g1 (.cells [Value.int .i64 (d0.1), Value.int .i64 (d0.2.1), Value.int .u8 (d0.2.2.1), Value.int .i64 (d0.2.2.2.1), Value.slice p0_A4 (d0.2.2.2.2.1.length) (p0_c4), Value.int .i64 (d0.2.2.2.2.2.1), Value.int .i64 (d0.2.2.2.2.2.2.1), Value.slice p0_A7 (d0.2.2.2.2.2.2.2.length) (p0_c7)].toArray 72 (0, 0))), (0, wm W)] (by kernel_rfl) ?_
        refine VO.k7 0 1 2 3 8 9 16 ?_
        refine outBN ?_
        refine outN ?_
        refine VC.seq ?_
        refine VC.rs ?_
        refine VO.mv ?_
        refine VO.y rfl (.notD rfl) ?_
        refine VO.k8 0 1 2 3 8 9 16 31 ?_
        refine VC.cond rfl (fun hc11 => ?_) (fun hc11 => ?_)
        · -- FTTT
          refine VC.rs ?_
          refine VO.as ?_
          refine VO.k8 0 1 2 3 8 9 16 31 ?_
          refine VC.ret ?_
          refine outR ?_
          refine ⟨_, _, res_run (rs := [.tmp 2]) rfl (.tmp rfl .nil), fun W_ hI => out_of (l := []) hI [] rfl rfl (mle_refl _) (fun hS_ => ?_)⟩
          dsimp only [packV]
          all_goals (first | rfl | (exact fin0_lCheck_ok))
        · -- FTTF
          refine VC.skip ?_
          refine outN ?_
          refine VC.rs ?_
          refine VO.as ?_
          refine VO.k8 0 1 2 3 8 9 16 31 ?_
          refine VC.ret ?_
          refine ⟨_, _, res_run (rs := [.tmp 2]) rfl (.tmp rfl .nil), fun W_ hI => out_of (l := []) hI [] rfl rfl (mle_refl _) (fun hS_ => ?_)⟩
          dsimp only [packV]
          all_goals (first | rfl | (exact fin0_lCheck_ok))
      · -- FTF
        refine VO.gN ?_
        refine VO.gN ?_
        refine VO.y rfl (.pF rfl rfl) ?_
        refine VO.as ?_
        refine VO.keep [102, 0] [(102, mone g1 (.cells [Value.int .i64 (d0.1), Value.int .i64 (d0.2.1), Value.int .u8 (d0.2.2.1), Value.int .i64 (d0.2.2.2.1), Value.slice p0_A4 (d0.2.2.2.2.1.length) (p0_c4), Value.int .i64 (d0.2.2.2.2.2.1), Value.int .i64 (d0.2.2.2.2.2.2.1), Value.slice p0_A7 (d0.2.2.2.2.2.2.2.length) (p0_c7)].toArray 72 (0, 0))), (0, wm W)] (by kernel_rfl) ?_
        refine VO.k7 0 1 2 3 8 9 16 ?_
        refine outBN ?_
        refine outN ?_
        refine VC.seq ?_
        refine VC.rs ?_
        refine VO.mv ?_
        refine VO.y rfl (.not rfl) ?_
        refine VO.k8 0 1 2 3 8 9 16 31 ?_
        refine VC.condT rfl ?_
        refine VC.rs ?_
        refine VO.as ?_
        refine VO.k8 0 1 2 3 8 9 16 31 ?_
        refine VC.ret ?_
        refine outR ?_
        refine ⟨_, _, res_run (rs := [.tmp 2]) rfl (.tmp rfl .nil), fun W_ hI => out_of (l := []) hI [] rfl rfl (mle_refl _) (fun hS_ => ?_)⟩
        dsimp only [packV]
        all_goals (first | rfl | (exact fin0_lCheck_ok))
    · -- FF
      refine VC.rs ?_
      refine VO.y rfl (.eql rfl rfl) ?_
      refine VO.as ?_
      refine VO.keep [102, 0] [(102, mone g1 (.cells [Value.int .i64 (d0.1), Value.int .i64 (d0.2.1), Value.int .u8 (d0.2.2.1), Value.int .i64 (d0.2.2.2.1), Value.slice p0_A4 (d0.2.2.2.2.1.length) (p0_c4), Value.int .i64 (d0.2.2.2.2.2.1), Value.int .i64 (d0.2.2.2.2.2.2.1), Value.slice p0_A7 (d0.2.2.2.2.2.2.2.length) (p0_c7)].toArray 72 (0, 0))), (0, wm W)] (by kernel_rfl) ?_
      refine VO.k8 0 1 2 3 8 9 16 23 ?_
      refine VC.cond rfl (fun hc12 => ?_) (fun hc12 => ?_)
      · -- FFT
        refine VC.reg ?_
        refine VO.mv ?_
        refine VO.mv ?_
        refine VO.dec (t := 26) rfl (fun hc13 => ?_) (fun hc13 => ?_)
        · -- FFTT
          refine VO.gy rfl ⟨_, rfl, rfl⟩ (.ldA 102 rfl tk72 rfl (cellsAt_one rfl rfl)) ?_
          refine VO.gcallN 114 rfl ⟨_, rfl, rfl⟩ fnOk127 rfl (fun W hW => lack_ok W (Rd.mono h0 (hW.at (i := 0) rfl))) (fun v14 m14 hv14 => ?_)
          subst hv14
          refine VO.y rfl (.pT rfl rfl) ?_
          refine VO.as ?_
          refine VO.k8 0 1 2 3 8 9 16 23 ?_
          refine outBN ?_
          refine outN ?_
          refine VC.seq ?_
          refine VC.rs ?_
          refine VO.mv ?_
          refine VO.y rfl (.notD rfl) ?_
          refine VO.k9 0 1 2 3 8 9 16 23 31 ?_
          refine VC.cond rfl (fun hc15 => ?_) (fun hc15 => ?_)
          · -- FFTTT
            refine VC.rs ?_
            refine VO.as ?_
            refine VO.keep [102, 0] [(102, mone g1 (.cells [Value.int .i64 (d0.1), Value.int .i64 (d0.2.1), Value.int .u8 (d0.2.2.1), Value.int .i64 (d0.2.2.2.1), Value.slice p0_A4 (d0.2.2.2.2.1.length) (p0_c4), Value.int .i64 (d0.2.2.2.2.2.1), Value.int .i64 (d0.2.2.2.2.2.2.1), Value.slice p0_A7 (d0.2.2.2.2.2.2.2.length) (p0_c7)].toArray 72 (0, 0))), (0, wm W)] (by kernel_rfl) ?_
            refine VO.k9 0 1 2 3 8 9 16 23 31 ?_
            refine VC.ret ?_
            refine outR ?_
            refine ⟨_, _, res_run (rs := [.tmp 2]) rfl (.tmp rfl .nil), fun W_ hI => out_of (l := []) hI [] rfl rfl (mle_refl _) (fun hS_ => ?_)⟩
            dsimp only [packV]
            all_goals (first | rfl | (exact fin0_lCheck_ok))
          · -- FFTTF
            refine VC.skip ?_
            refine outN ?_
            refine VC.rs ?_
            refine VO.as ?_
            refine VO.keep [102, 0] [(102, mone g1 (.cells [Value.int .i64 (d0.1), Value.int .i64 (d0.2.1), Value.int .u8 (d0.2.2.1), Value.int .i64 (d0.2.2.2.1), Value.slice p0_A4 (d0.2.2.2.2.1.length) (p0_c4), Value.int .i64 (d0.2.2.2.2.2.1), Value.int .i64 (d0.2.2.2.2.2.2.1), Value.slice p0_A7 (d0.2.2.2.2.2.2.2.length) (p0_c7)].toArray 72 (0, 0))), (0, wm W)] (by kernel_rfl) ?_
            refine VO.k9 0 1 2 3 8 9 16 23 31 ?_
            refine VC.ret ?_
            refine ⟨_, _, res_run (rs := [.tmp 2]) rfl (.tmp rfl .nil), fun W_ hI => out_of (l := []) hI [] rfl rfl (mle_refl _) (fun hS_ => ?_)⟩
            dsimp only [packV]
            all_goals (first | rfl | (exact fin0_lCheck_ok))
        · -- FFTF
          refine VO.gN ?_
          refine VO.gN ?_
          refine VO.y rfl (.pF rfl rfl) ?_
          refine VO.as ?_
          refine VO.k8 0 1 2 3 8 9 16 23 ?_
          refine outBN ?_
          refine outN ?_
          refine VC.seq ?_
          refine VC.rs ?_
          refine VO.mv ?_
          refine VO.y rfl (.not rfl) ?_
          refine VO.k9 0 1 2 3 8 9 16 23 31 ?_
          refine VC.condT rfl ?_
          refine VC.rs ?_
          refine VO.as ?_
          refine VO.keep [102, 0] [(102, mone g1 (.cells [Value.int .i64 (d0.1), Value.int .i64 (d0.2.1), Value.int .u8 (d0.2.2.1), Value.int .i64 (d0.2.2.2.1), Value.slice p0_A4 (d0.2.2.2.2.1.length) (p0_c4), Value.int .i64 (d0.2.2.2.2.2.1), Value.int .i64 (d0.2.2.2.2.2.2.1), Value.slice p0_A7 (d0.2.2.2.2.2.2.2.length) (p0_c7)].toArray 72 (0, 0))), (0, wm W)] (by kernel_rfl) ?_
          refine VO.k9 0 1 2 3 8 9 16 23 31 ?_
          refine VC.ret ?_
          refine outR ?_
          refine ⟨_, _, res_run (rs := [.tmp 2]) rfl (.tmp rfl .nil), fun W_ hI => out_of (l := []) hI [] rfl rfl (mle_refl _) (fun hS_ => ?_)⟩
          dsimp only [packV]
          all_goals (first | rfl | (exact fin0_lCheck_ok))
      · -- FFF
        refine VC.reg ?_
        refine VO.as ?_
        refine VO.k8 0 1 2 3 8 9 16 23 ?_
        refine outBN ?_
        refine outN ?_
        refine VC.seq ?_
        refine VC.rs ?_
        refine VO.mv ?_
        refine VO.y rfl (.not rfl) ?_
        refine VO.k9 0 1 2 3 8 9 16 23 31 ?_
        refine VC.condT rfl ?_
        refine VC.rs ?_
        refine VO.as ?_
        refine VO.keep [102, 0] [(102, mone g1 (.cells [Value.int .i64 (d0.1), Value.int .i64 (d0.2.1), Value.int .u8 (d0.2.2.1), Value.int .i64 (d0.2.2.2.1), Value.slice p0_A4 (d0.2.2.2.2.1.length) (p0_c4), Value.int .i64 (d0.2.2.2.2.2.1), Value.int .i64 (d0.2.2.2.2.2.2.1), Value.slice p0_A7 (d0.2.2.2.2.2.2.2.length) (p0_c7)].toArray 72 (0, 0))), (0, wm W)] (by kernel_rfl) ?_
        refine VO.k9 0 1 2 3 8 9 16 23 31 ?_
        refine VC.ret ?_
        refine outR ?_
        refine ⟨_, _, res_run (rs := [.tmp 2]) rfl (.tmp rfl .nil), fun W_ hI => out_of (l := []) hI [] rfl rfl (mle_refl _) (fun hS_ => ?_)⟩
        dsimp only [packV]
        all_goals (first | rfl | (exact fin0_lCheck_ok))
end
section
set_option linter.unusedVariables false
set_option linter.unusedSimpArgs false
set_option maxRecDepth 4000
theorem fnOk60 : fnOk Try.prog 60 = true := by kernel_rfl
theorem fin0_next_ok {P : Prop} (h : P := by first | (rw [next_wrong ‹_›]; rfl) | (rw [next_arg ‹¬ ¬ _› (by omega)]; rfl) | (have hcs2 := hcs.trans ((List.take_of_length_le (by omega)).trans (next_list _ _ ‹_› ‹_›)); rw [next_good ‹¬ ¬ _› ‹_› ‹_› ‹_›, ← hcs2]; first | rw [prevOf_pos ‹0 < d2› ‹_›] | rw [prevOf_zero ‹_›])) : P := h
theorem fin1_next_ok {P : Prop} (h : P := by first | omega | (simp only [List.length_append, List.length_nil, List.length_cons, List.length_take, List.length_drop] at *; omega) | (have := wrong_len ‹¬ ¬ shipWrong d0 d1 = 0›; omega) | exact next_room ‹¬ ¬ shipWrong d0 d1 = 0› ‹_›) : P := h
theorem next_ok (W : World) (d0 : Int) (h0 : inK .i64 d0) {v1 : Value} {d1 : List DCommit} (h1 : Rd (.sl TCommit) (wm W) [v1] d1) (d2 : Int) (h2 : inK .i64 d2) : CallR Try.prog 65 [.int .i64 d0, v1, .int .i64 d2] W (mnil) (fun v m' => ∃ (s0 : List Value), v = .tuple #[.agg s0.toArray, .int .i64 ((shipNext d0 d1 d2).2)] ∧ Ow TMessage m' s0 ((shipNext d0 d1 d2).1)) := by
  have h0' := h0; simp only [inK] at h0'
  obtain ⟨A1, c1, rfl, l1, k1⟩ := h1.slice
  simp only [maxLen] at k1
  have h2' := h2; simp only [inK] at h2'
  refine CallR.ofA (n := 67) Try.func65 rfl rfl rfl ?_
  refine VC.rs ?_
  refine VO.alloc 102 rfl tz72 (fun g1 => ?_)
  refine VO.as ?_
  refine VO.k5 0 1 2 6 7 ?_
  refine VC.seq ?_
  refine VC.rs ?_
  refine VO.mv ?_
  refine VO.mv ?_
  refine VO.callN 103 rfl fnOk112 rfl (fun W hW => wrong_ok W d0 (by simp only [inK]; (exact fin1_next_ok)) (Rd.mono h1 (hW.at (i := 0) rfl))) (fun v3 m3 hv3 => ?_)
  subst hv3
  have hfa4 := shipWrong_range d0 d1
  refine VO.as ?_
  refine VO.k6 0 1 2 6 7 8 ?_
  refine VC.rs ?_
  refine VO.mv ?_
  refine VO.y rfl (.neq rfl rfl) ?_
  refine VO.keep [102, 0] [(102, mone g1 (.cells [Value.int .i64 (0), Value.int .i64 (0), Value.int .u8 (0), Value.int .i64 (0), Value.slice none (0) (0), Value.int .i64 (0), Value.int .i64 (0), Value.slice none (0) (0)].toArray 72 (0, 0))), (0, wm W)] (by kernel_rfl) ?_
  refine VO.k7 0 1 2 6 7 8 16 ?_
  refine VC.cond rfl (fun hc5 => ?_) (fun hc5 => ?_)
  · -- T
    refine VC.rs ?_
    refine VO.y rfl (.bst (cs := [Value.int .i64 (0), Value.int .i64 (0), Value.int .u8 (0), Value.int .i64 (0), Value.slice none (0) (0), Value.int .i64 (0), Value.int .i64 (0), Value.slice none (0) (0)]) rfl tst72 tz72 rfl) ?_
    refine VO.mv ?_
    refine VO.store (k := 8) (c' := [Value.int .i64 (0), Value.int .i64 (0), Value.int .u8 (0), Value.int .i64 (0), Value.slice none (0) (0), Value.int .i64 (0), Value.int .i64 (0), Value.slice none (0) (0)]) 102 rfl rfl (.inl tk72) rfl rfl rfl rfl rfl ?_
    refine VO.as ?_
    refine VO.k7 0 1 2 6 7 8 16 ?_
    refine VC.ret ?_
    refine outR ?_
    refine ⟨_, _, res_run (rs := [.cell 6 72, .tmp 7]) rfl (.agg 102 rfl tk72 rfl ⟨_, _, _, mone_self _ _, Nat.le_of_ble_eq_true rfl, rfl⟩ (.tmp rfl .nil)), fun W_ hI => out_of (l := []) hI [] rfl rfl (mle_refl _) (fun hS_ => ?_)⟩
    dsimp only [packV]
    have he0 : ((shipNext d0 d1 d2).1 : Ty.Den TMessage) = (0, 0, 0, 0, [], 0, 0, []) := by first | rfl | (exact fin0_next_ok)
    refine ⟨[Value.int .i64 (0), Value.int .i64 (0), Value.int .u8 (0), Value.int .i64 (0), Value.slice none (0) (0), Value.int .i64 (0), Value.int .i64 (0), Value.slice none (0) (0)], ?_, ?_⟩
    rotate_left
    · rw [he0]; exact (mkO_Message 0 0 0 0 [] 0 0 [] (Seps.nilAt 1 (Seps.nilAt 0 hS_)) (by simp only [inK]; (exact fin1_next_ok)) (by simp only [inK]; (exact fin1_next_ok)) (by simp only [inK]; (exact fin1_next_ok)) (by simp only [inK]; (exact fin1_next_ok)) (Ow.nil _ _) (by simp only [inK]; (exact fin1_next_ok)) (by simp only [inK]; (exact fin1_next_ok)) (Ow.nil _ _))
    all_goals (first | rfl | (first | (rw [next_wrong ‹_›]; rfl) | (rw [next_arg ‹¬ ¬ _› (by omega)]; rfl) | (rw [next_good ‹¬ ¬ _› ‹_› ‹_› ‹_›]; rfl)))
  · -- F
    refine VC.skip ?_
    refine outN ?_
    refine VC.seq ?_
    refine VC.rs ?_
    refine VO.mv ?_
    refine VO.y rfl (.lss rfl rfl) ?_
    refine VO.mv ?_
    refine VO.dec (t := 21) rfl (fun hc6 => ?_) (fun hc6 => ?_)
    · -- FT
      refine VO.gN ?_
      refine VO.gN ?_
      refine VO.gN ?_
      refine VO.gN ?_
      refine VO.y rfl (.pT rfl rfl) ?_
      refine VO.mv ?_
      refine VO.gN ?_
      refine VO.gN ?_
      refine VO.y rfl (.pT rfl rfl) ?_
      refine VO.k8 0 1 2 6 7 8 16 30 ?_
      refine VC.condT rfl ?_
      refine VC.rs ?_
      refine VO.y rfl (.bst (cs := [Value.int .i64 (0), Value.int .i64 (0), Value.int .u8 (0), Value.int .i64 (0), Value.slice none (0) (0), Value.int .i64 (0), Value.int .i64 (0), Value.slice none (0) (0)]) rfl tst72 tz72 rfl) ?_
      refine VO.store (k := 8) (c' := [Value.int .i64 (0), Value.int .i64 (0), Value.int .u8 (0), Value.int .i64 (0), Value.slice none (0) (0), Value.int .i64 (0), Value.int .i64 (0), Value.slice none (0) (0)]) 102 rfl rfl (.inl tk72) rfl rfl rfl rfl rfl ?_
      refine VO.as ?_
      refine VO.k8 0 1 2 6 7 8 16 30 ?_
      refine VC.ret ?_
      refine outR ?_
      refine ⟨_, _, res_run (rs := [.cell 6 72, .tmp 7]) rfl (.agg 102 rfl tk72 rfl ⟨_, _, _, mone_self _ _, Nat.le_of_ble_eq_true rfl, rfl⟩ (.tmp rfl .nil)), fun W_ hI => out_of (l := []) hI [] rfl rfl (mle_refl _) (fun hS_ => ?_)⟩
      dsimp only [packV]
      have he0 : ((shipNext d0 d1 d2).1 : Ty.Den TMessage) = (0, 0, 0, 0, [], 0, 0, []) := by first | rfl | (exact fin0_next_ok)
      refine ⟨[Value.int .i64 (0), Value.int .i64 (0), Value.int .u8 (0), Value.int .i64 (0), Value.slice none (0) (0), Value.int .i64 (0), Value.int .i64 (0), Value.slice none (0) (0)], ?_, ?_⟩
      rotate_left
      · rw [he0]; exact (mkO_Message 0 0 0 0 [] 0 0 [] (Seps.nilAt 1 (Seps.nilAt 0 hS_)) (by simp only [inK]; (exact fin1_next_ok)) (by simp only [inK]; (exact fin1_next_ok)) (by simp only [inK]; (exact fin1_next_ok)) (by simp only [inK]; (exact fin1_next_ok)) (Ow.nil _ _) (by simp only [inK]; (exact fin1_next_ok)) (by simp only [inK]; (exact fin1_next_ok)) (Ow.nil _ _))
      all_goals (first | rfl | (first | (rw [next_wrong ‹_›]; rfl) | (rw [next_arg ‹¬ ¬ _› (by omega)]; rfl) | (rw [next_good ‹¬ ¬ _› ‹_› ‹_› ‹_›]; rfl)))
    · -- FF
      refine VO.gy rfl ⟨_, rfl, rfl⟩ (.mv rfl) ?_
      refine VO.gy rfl ⟨_, rfl, rfl⟩ (.mv rfl) ?_
      refine VO.gy rfl ⟨_, rfl, rfl⟩ (.lenS rfl tsl61) ?_
      refine VO.gy rfl ⟨_, rfl, rfl⟩ (.gtr rfl rfl) ?_
      refine VO.y rfl (.pF rfl rfl) ?_
      refine VO.mv ?_
      refine VO.dec (t := 27) rfl (fun hc7 => ?_) (fun hc7 => ?_)
      · -- FFT
        refine VO.gN ?_
        refine VO.gN ?_
        refine VO.y rfl (.pT rfl rfl) ?_
        refine VO.k8 0 1 2 6 7 8 16 30 ?_
        refine VC.condT rfl ?_
        refine VC.rs ?_
        refine VO.y rfl (.bst (cs := [Value.int .i64 (0), Value.int .i64 (0), Value.int .u8 (0), Value.int .i64 (0), Value.slice none (0) (0), Value.int .i64 (0), Value.int .i64 (0), Value.slice none (0) (0)]) rfl tst72 tz72 rfl) ?_
        refine VO.store (k := 8) (c' := [Value.int .i64 (0), Value.int .i64 (0), Value.int .u8 (0), Value.int .i64 (0), Value.slice none (0) (0), Value.int .i64 (0), Value.int .i64 (0), Value.slice none (0) (0)]) 102 rfl rfl (.inl tk72) rfl rfl rfl rfl rfl ?_
        refine VO.as ?_
        refine VO.k8 0 1 2 6 7 8 16 30 ?_
        refine VC.ret ?_
        refine outR ?_
        refine ⟨_, _, res_run (rs := [.cell 6 72, .tmp 7]) rfl (.agg 102 rfl tk72 rfl ⟨_, _, _, mone_self _ _, Nat.le_of_ble_eq_true rfl, rfl⟩ (.tmp rfl .nil)), fun W_ hI => out_of (l := []) hI [] rfl rfl (mle_refl _) (fun hS_ => ?_)⟩
        dsimp only [packV]
        have he0 : ((shipNext d0 d1 d2).1 : Ty.Den TMessage) = (0, 0, 0, 0, [], 0, 0, []) := by first | rfl | (exact fin0_next_ok)
        refine ⟨[Value.int .i64 (0), Value.int .i64 (0), Value.int .u8 (0), Value.int .i64 (0), Value.slice none (0) (0), Value.int .i64 (0), Value.int .i64 (0), Value.slice none (0) (0)], ?_, ?_⟩
        rotate_left
        · rw [he0]; exact (mkO_Message 0 0 0 0 [] 0 0 [] (Seps.nilAt 1 (Seps.nilAt 0 hS_)) (by simp only [inK]; (exact fin1_next_ok)) (by simp only [inK]; (exact fin1_next_ok)) (by simp only [inK]; (exact fin1_next_ok)) (by simp only [inK]; (exact fin1_next_ok)) (Ow.nil _ _) (by simp only [inK]; (exact fin1_next_ok)) (by simp only [inK]; (exact fin1_next_ok)) (Ow.nil _ _))
        all_goals (first | rfl | (first | (rw [next_wrong ‹_›]; rfl) | (rw [next_arg ‹¬ ¬ _› (by omega)]; rfl) | (rw [next_good ‹¬ ¬ _› ‹_› ‹_› ‹_›]; rfl)))
      · -- FFF
        refine VO.gy rfl ⟨_, rfl, rfl⟩ (.mv rfl) ?_
        refine VO.gy rfl ⟨_, rfl, rfl⟩ (.eql rfl rfl) ?_
        refine VO.y rfl (.pF rfl rfl) ?_
        refine VO.k8 0 1 2 6 7 8 16 30 ?_
        refine VC.cond rfl (fun hc8 => ?_) (fun hc8 => ?_)
        · -- FFFT
          refine VC.rs ?_
          refine VO.y rfl (.bst (cs := [Value.int .i64 (0), Value.int .i64 (0), Value.int .u8 (0), Value.int .i64 (0), Value.slice none (0) (0), Value.int .i64 (0), Value.int .i64 (0), Value.slice none (0) (0)]) rfl tst72 tz72 rfl) ?_
          refine VO.store (k := 8) (c' := [Value.int .i64 (0), Value.int .i64 (0), Value.int .u8 (0), Value.int .i64 (0), Value.slice none (0) (0), Value.int .i64 (0), Value.int .i64 (0), Value.slice none (0) (0)]) 102 rfl rfl (.inl tk72) rfl rfl rfl rfl rfl ?_
          refine VO.as ?_
          refine VO.k8 0 1 2 6 7 8 16 30 ?_
          refine VC.ret ?_
          refine outR ?_
          refine ⟨_, _, res_run (rs := [.cell 6 72, .tmp 7]) rfl (.agg 102 rfl tk72 rfl ⟨_, _, _, mone_self _ _, Nat.le_of_ble_eq_true rfl, rfl⟩ (.tmp rfl .nil)), fun W_ hI => out_of (l := []) hI [] rfl rfl (mle_refl _) (fun hS_ => ?_)⟩
          dsimp only [packV]
          have he0 : ((shipNext d0 d1 d2).1 : Ty.Den TMessage) = (0, 0, 0, 0, [], 0, 0, []) := by first | rfl | (exact fin0_next_ok)
          refine ⟨[Value.int .i64 (0), Value.int .i64 (0), Value.int .u8 (0), Value.int .i64 (0), Value.slice none (0) (0), Value.int .i64 (0), Value.int .i64 (0), Value.slice none (0) (0)], ?_, ?_⟩
          rotate_left
          · rw [he0]; exact (mkO_Message 0 0 0 0 [] 0 0 [] (Seps.nilAt 1 (Seps.nilAt 0 hS_)) (by simp only [inK]; (exact fin1_next_ok)) (by simp only [inK]; (exact fin1_next_ok)) (by simp only [inK]; (exact fin1_next_ok)) (by simp only [inK]; (exact fin1_next_ok)) (Ow.nil _ _) (by simp only [inK]; (exact fin1_next_ok)) (by simp only [inK]; (exact fin1_next_ok)) (Ow.nil _ _))
          all_goals (first | rfl | (first | (rw [next_wrong ‹_›]; rfl) | (rw [next_arg ‹¬ ¬ _› (by omega)]; rfl) | (rw [next_good ‹¬ ¬ _› ‹_› ‹_› ‹_›]; rfl)))
        · -- FFFF
          refine VC.skip ?_
          refine outN ?_
          refine VC.rs ?_
          refine VO.mv ?_
          refine VO.mv ?_
          refine VO.y rfl (.add rfl rfl rfl ⟨by exact fin1_next_ok, by exact fin1_next_ok⟩) ?_
          refine VO.y rfl (.bst (cs := [Value.int .i64 (2), Value.int .i64 (d0), Value.int .u8 (0), Value.int .i64 (0), Value.slice none (0) (0), Value.int .i64 (d2 + 1), Value.int .i64 (0), Value.slice none (0) (0)]) rfl tst72 tz72 rfl) ?_
          refine VO.alloc 110 rfl tz72 (fun g9 => ?_)
          refine VO.store (k := 8) (c' := [Value.int .i64 (2), Value.int .i64 (d0), Value.int .u8 (0), Value.int .i64 (0), Value.slice none (0) (0), Value.int .i64 (d2 + 1), Value.int .i64 (0), Value.slice none (0) (0)]) 110 rfl rfl (.inl tk72) rfl rfl rfl rfl rfl ?_
          refine VO.k9 0 1 2 6 7 8 9 16 30 ?_
          refine VC.seq ?_
          refine VC.rs ?_
          refine VO.mv ?_
          refine VO.y rfl (.gtr rfl rfl) ?_
          refine VO.keep [110, 102, 0] [(110, mone g9 (.cells [Value.int .i64 (2), Value.int .i64 (d0), Value.int .u8 (0), Value.int .i64 (0), Value.slice none (0) (0), Value.int .i64 (d2 + 1), Value.int .i64 (0), Value.slice none (0) (0)].toArray 72 (0, 0))), (102, mone g1 (.cells [Value.int .i64 (0), Value.int .i64 (0), Value.int .u8 (0), Value.int .i64 (0), Value.slice none (0) (0), Value.int .i64 (0), Value.int .i64 (0), Value.slice none (0) (0)].toArray 72 (0, 0))), (0, wm W)] (by kernel_rfl) ?_
          refine VO.k10 0 1 2 6 7 8 9 16 30 37 ?_
          refine VC.cond rfl (fun hc11 => ?_) (fun hc11 => ?_)
          · -- FFFFT
            refine VC.reg ?_
            refine VO.mv ?_
            refine VO.mv ?_
            refine VO.y rfl (.sub rfl rfl rfl ⟨by exact fin1_next_ok, by exact fin1_next_ok⟩) ?_
            obtain ⟨x12, hx12⟩ : ∃ z_, (d1)[(d2 - 1).toNat]? = some z_ := ⟨_, List.getElem?_eq_getElem (by exact fin1_next_ok)⟩
            obtain ⟨gg12, oo12, ec12, ea12, hce12, hre12⟩ := h1.elem hx12
            cases ea12
            obtain ⟨q12_A2, q12_c2, rfl, q12_0, q12_1, q12_2⟩ := open_Commit (x0 := x12.1) (x1 := x12.2.1) (x2 := x12.2.2) hre12
            simp only [inK] at q12_0
            simp only [inK] at q12_1
            have q12_r2 := Rd.room q12_2
            refine VO.y rfl (.ixI ((d2 - 1).toNat) rfl rfl tsl61 (by exact fin1_next_ok) (by exact fin1_next_ok)) ?_
            refine VO.y rfl (.fa rfl tst52 rfl) ?_
            refine VO.y rfl (.ld1 0 rfl tk3 rfl (hce12.at1 (j := 0) rfl)) ?_
            refine VO.y rfl (.fa rfl tst72 rfl) ?_
            refine VO.store (k := 1) (c' := [Value.int .i64 (2), Value.int .i64 (d0), Value.int .u8 (0), Value.int .i64 (0), Value.slice none (0) (0), Value.int .i64 (d2 + 1), Value.int .i64 (x12.1), Value.slice none (0) (0)]) 110 rfl rfl (.inr ⟨tk3, rfl⟩) rfl rfl rfl rfl rfl ?_
            refine VO.k10 0 1 2 6 7 8 9 16 30 37 ?_
            refine outN ?_
            refine VC.seq ?_
            refine VC.rs ?_
            refine VO.mv ?_
            refine VO.mv ?_
            refine VO.mv ?_
            refine VO.y rfl (.add rfl rfl rfl ⟨by exact fin1_next_ok, by exact fin1_next_ok⟩) ?_
            refine VO.mv ?_
            refine VO.y rfl (.lenS rfl tsl61) ?_
            refine VO.y rfl (.minM rfl rfl) ?_
            obtain ⟨A13, hA13, hs13⟩ := h1.sub' 3 ((d2).toNat) ((min (d2 + 4) ((d1.length : Nat) : Int)).toNat) rfl (by exact fin1_next_ok) (by exact fin1_next_ok)
            refine VO.y rfl (.slI ((d2).toNat) ((min (d2 + 4) ((d1.length : Nat) : Int)).toNat) A13 rfl rfl rfl tsl61 (by exact fin1_next_ok) (by exact fin1_next_ok) hA13 (by exact fin1_next_ok) (by exact fin1_next_ok)) ?_
            refine VO.y rfl (.lenS rfl tsl61) ?_
            refine VO.mv ?_
            refine VO.k13 0 1 2 6 7 8 9 16 30 37 52 53 54 ?_
            refine VC.block ?_
            refine VC.inv ((114, mnil) :: _) (fun _ h => h.nilc 114) ?_
            refine VC.loop (G := Nat × (List DCommit) × (Option Addr) × Nat × Mem) (fun g => [(54, Value.int .i64 ((((g.1) : Nat) : Int))), (0, Value.int .i64 (d0)), (1, Value.slice (some ⟨gg12, oo12, none⟩) (d1.length) (c1)), (2, Value.int .i64 (d2)), (6, Value.pointer (some ⟨g1, 0, none⟩)), (7, Value.int .i64 (0)), (8, Value.int .i64 (shipWrong d0 d1)), (9, Value.pointer (some ⟨g9, 0, none⟩)), (16, Value.bool (decide (¬ (shipWrong d0 d1) = 0))), (30, Value.bool (decide (d2 = 1048576))), (37, Value.bool (decide (0 < d2))), (52, Value.slice A13 (((min (d2 + 4) ((d1.length : Nat) : Int)).toNat) - ((d2).toNat)) (c1 - ((d2).toNat))), (53, Value.int .i64 (((((min (d2 + 4) ((d1.length : Nat) : Int)).toNat) - ((d2).toNat) : Nat) : Int)))]) (fun g => [(114, (g.2.2.2.2)), (110, mone g9 (.cells [Value.int .i64 (2), Value.int .i64 (d0), Value.int .u8 (0), Value.int .i64 (0), Value.slice none (0) (0), Value.int .i64 (d2 + 1), Value.int .i64 (x12.1), Value.slice (g.2.2.1) ((g.2.1).length) ((g.2.2.2.1))].toArray 72 (0, 0))), (102, mone g1 (.cells [Value.int .i64 (0), Value.int .i64 (0), Value.int .u8 (0), Value.int .i64 (0), Value.slice none (0) (0), Value.int .i64 (0), Value.int .i64 (0), Value.slice none (0) (0)].toArray 72 (0, 0))), (0, wm W)]) (fun g => ((g.1) ≤ ((d1.take (min (d2 + 4) (d1.length : Int)).toNat).drop d2.toNat).length) ∧ ((g.2.1) = ((d1.take (min (d2 + 4) (d1.length : Int)).toNat).drop d2.toNat).take (g.1)) ∧ (Ow (.sl TCommit) (g.2.2.2.2) [.slice (g.2.2.1) (g.2.1).length (g.2.2.2.1)] (g.2.1))) (fun g => ((d1.take (min (d2 + 4) (d1.length : Int)).toNat).drop d2.toNat).length - (g.1)) (0, [], none, 0, mnil) (⟨by simp, by rfl, (Ow.nil TCommit mnil)⟩) ⟨⟨rfl, rfl, rfl, rfl, rfl, rfl, rfl, rfl, rfl, rfl, rfl, rfl, rfl, trivial⟩, fun _ h => h.sub [114, 110, 102, 0]⟩ ?_
            rintro ⟨k, cs, cs_A, cs_c, cs_m⟩ ⟨hk, hcs, h_cs⟩
            replace hk : k ≤ ((d1.take (min (d2 + 4) (d1.length : Int)).toNat).drop d2.toNat).length := hk
            replace hcs : cs = ((d1.take (min (d2 + 4) (d1.length : Int)).toNat).drop d2.toNat).take k := hcs
            replace h_cs : Ow (.sl TCommit) cs_m [.slice cs_A cs.length cs_c] cs := h_cs
            show VC _ _ _ _ _ [(54, Value.int .i64 (((k : Nat) : Int))), (0, Value.int .i64 (d0)), (1, Value.slice (some ⟨gg12, oo12, none⟩) (d1.length) (c1)), (2, Value.int .i64 (d2)), (6, Value.pointer (some ⟨g1, 0, none⟩)), (7, Value.int .i64 (0)), (8, Value.int .i64 (shipWrong d0 d1)), (9, Value.pointer (some ⟨g9, 0, none⟩)), (16, Value.bool (decide (¬ (shipWrong d0 d1) = 0))), (30, Value.bool (decide (d2 = 1048576))), (37, Value.bool (decide (0 < d2))), (52, Value.slice A13 (((min (d2 + 4) ((d1.length : Nat) : Int)).toNat) - ((d2).toNat)) (c1 - ((d2).toNat))), (53, Value.int .i64 (((((min (d2 + 4) ((d1.length : Nat) : Int)).toNat) - ((d2).toNat) : Nat) : Int)))] [(114, cs_m), (110, mone g9 (.cells [Value.int .i64 (2), Value.int .i64 (d0), Value.int .u8 (0), Value.int .i64 (0), Value.slice none (0) (0), Value.int .i64 (d2 + 1), Value.int .i64 (x12.1), Value.slice cs_A (cs.length) (cs_c)].toArray 72 (0, 0))), (102, mone g1 (.cells [Value.int .i64 (0), Value.int .i64 (0), Value.int .u8 (0), Value.int .i64 (0), Value.slice none (0) (0), Value.int .i64 (0), Value.int .i64 (0), Value.slice none (0) (0)].toArray 72 (0, 0))), (0, wm W)]
            have l_cs : cs.length ≤ cs_c := by obtain ⟨_, _, he, hl, _⟩ := h_cs.slice; simp only [Value.slice.injEq] at he; omega
            have k_cs : cs_c ≤ 9223372036854775807 := by obtain ⟨_, _, he, _, hl⟩ := h_cs.slice; simp only [Value.slice.injEq, maxLen] at he hl; omega
            have hl0 : ((d1.take (min (d2 + 4) (d1.length : Int)).toNat).drop d2.toNat).length = min (d2.toNat + 4) d1.length - d2.toNat := by simp only [List.length_drop, List.length_take]; omega
            have hlc : cs.length ≤ k := by rw [hcs]; simp; omega
            refine VC.rs ?_
            refine VO.y rfl (.lss rfl rfl) ?_
            refine VO.keep [114, 110, 102, 0] [(114, cs_m), (110, mone g9 (.cells [Value.int .i64 (2), Value.int .i64 (d0), Value.int .u8 (0), Value.int .i64 (0), Value.slice none (0) (0), Value.int .i64 (d2 + 1), Value.int .i64 (x12.1), Value.slice cs_A (cs.length) (cs_c)].toArray 72 (0, 0))), (102, mone g1 (.cells [Value.int .i64 (0), Value.int .i64 (0), Value.int .u8 (0), Value.int .i64 (0), Value.slice none (0) (0), Value.int .i64 (0), Value.int .i64 (0), Value.slice none (0) (0)].toArray 72 (0, 0))), (0, wm W)] (by kernel_rfl) ?_
            refine VO.k14 0 1 2 6 7 8 9 16 30 37 52 53 54 55 ?_
            refine VC.seq ?_
            refine VC.cond rfl (fun hc15 => ?_) (fun hc15 => ?_)
            · -- FFFFTT
              refine VC.skip ?_
              refine outN ?_
              refine VC.seq ?_
              refine VC.block ?_
              refine VC.rs ?_
              obtain ⟨x16, hx16⟩ : ∃ z_, ((d1.take ((min (d2 + 4) ((d1.length : Nat) : Int)).toNat)).drop ((d2).toNat))[k]? = some z_ := ⟨_, List.getElem?_eq_getElem (by exact fin1_next_ok)⟩
              obtain ⟨gg16, oo16, ec16, ea16, hce16, hre16⟩ := hs13.elem hx16
              cases ea16
              obtain ⟨q16_A2, q16_c2, rfl, q16_0, q16_1, q16_2⟩ := open_Commit (x0 := x16.1) (x1 := x16.2.1) (x2 := x16.2.2) hre16
              simp only [inK] at q16_0
              simp only [inK] at q16_1
              have q16_r2 := Rd.room q16_2
              refine VO.y rfl (.ixI k rfl rfl tsl61 rfl (by exact fin1_next_ok)) ?_
              refine VO.y rfl (.ldA 0 rfl tk52 rfl hce16) ?_
              refine VO.alloc 118 rfl tz52 (fun g17 => ?_)
              refine VO.store (k := 3) (c' := [Value.int .i64 (x16.1), Value.int .i64 (x16.2.1), Value.slice q16_A2 (x16.2.2.length) (q16_c2)]) 118 rfl rfl (.inl tk52) rfl rfl rfl rfl rfl ?_
              refine VO.k15 0 1 2 6 7 8 9 11 16 30 37 52 53 54 55 ?_
              refine VC.regD _ 5 [(0, true), (1, true), (2, true), (3, false), (4, false)] follows (by kernel_rfl) (fun _ h => h.sub [118, 114, 110, 102, 0]) ?_
              refine VD.y rfl rfl (.inl rfl) (.fa rfl tst72 rfl) ?_
              refine VD.y rfl rfl (.inl rfl) (.ld1 110 rfl tk61 rfl (cellsAt_one rfl rfl)) ?_
              refine VD.y rfl rfl (.inl rfl) (.ldA 118 rfl tk52 rfl (cellsAt_one rfl rfl)) ?_
              refine VD.callN 119 rfl rfl (.inl rfl) fnOk60 rfl (fun _ h => h.sub [118, 114, 110, 102, 0]) (fun W hW => cCopy_ok W (Rd.mono hre16 (hW.at (i := 0) rfl)) (by exact fin1_next_ok)) (fun v19 m19 hv19 => ?_)
              obtain ⟨s19_0, rfl, f19_0⟩ := hv19
              obtain ⟨q19_0_A2, q19_0_c2, q19_0_n2, rfl, q19_0_S, q19_0_0, q19_0_1, q19_0_2⟩ := openO_Commit (x0 := x16.1) (x1 := x16.2.1) (x2 := x16.2.2) f19_0
              simp only [inK] at q19_0_0
              simp only [inK] at q19_0_1
              have q19_0_r2 := Rd.room (q19_0_2.rd (mle_refl _))
              refine VD.inv _ (fun _ h => h.parts (i := 119) rfl q19_0_S [120]) ?_
              refine VD.bsl (cs := [Value.int .i64 (x16.1), Value.int .i64 (x16.2.1), Value.slice q19_0_A2 (x16.2.2.length) (q19_0_c2)]) 122 rfl rfl rfl tsl61 tz52 rfl rfl (fun _ h => h.sub [118, 114, 110, 102, 0]) (fun g21 => ?_)
              refine VD.nil rfl ?_ rfl
              refine VO.appO (e := TCommit) 114 120 122 rfl rfl rfl tsl61 tz52 rfl rfl rfl rfl h_cs (show Ow TCommit _ _ x16 from (mkO_Commit x16.1 x16.2.1 x16.2.2 (Seps.one (mle_refl _)) (by simp only [inK]; (exact fin1_next_ok)) (by simp only [inK]; (exact fin1_next_ok)) (OwnL.ow (Ow.ownl q19_0_2 rfl mnil) rfl))) Try.underlying61 (cellsAt_one rfl rfl) (by simp only [maxLen]; (exact fin1_next_ok)) (by exact fin1_next_ok) (by decide) (fun v23 m23 ho23 => ?_)
              obtain ⟨A23, c23, rfl, l23, k23⟩ := ho23.slice
              simp only [maxLen] at k23
              refine VO.y rfl (.fa rfl tst72 rfl) ?_
              refine VO.store (k := 1) (c' := [Value.int .i64 (2), Value.int .i64 (d0), Value.int .u8 (0), Value.int .i64 (0), Value.slice none (0) (0), Value.int .i64 (d2 + 1), Value.int .i64 (x12.1), Value.slice A23 ((cs ++ [x16]).length) (c23)]) 110 rfl rfl (.inr ⟨tk61, rfl⟩) rfl rfl rfl rfl rfl ?_
              refine VO.k15 0 1 2 6 7 8 9 11 16 30 37 52 53 54 55 ?_
              refine outBN ?_
              refine outN ?_
              refine VC.reg ?_
              refine VO.y rfl (.add (c := ((k + 1 : Nat) : Int)) rfl rfl (by omega) ⟨by exact fin1_next_ok, by exact fin1_next_ok⟩) ?_
              refine VO.mv ?_
              refine VO.keep [114, 118, 110, 102, 0] [(114, m23), (118, mone g17 (.cells [Value.int .i64 (x16.1), Value.int .i64 (x16.2.1), Value.slice q16_A2 (x16.2.2.length) (q16_c2)].toArray 52 (0, 0))), (110, mone g9 (.cells [Value.int .i64 (2), Value.int .i64 (d0), Value.int .u8 (0), Value.int .i64 (0), Value.slice none (0) (0), Value.int .i64 (d2 + 1), Value.int .i64 (x12.1), Value.slice A23 ((cs ++ [x16]).length) (c23)].toArray 72 (0, 0))), (102, mone g1 (.cells [Value.int .i64 (0), Value.int .i64 (0), Value.int .u8 (0), Value.int .i64 (0), Value.slice none (0) (0), Value.int .i64 (0), Value.int .i64 (0), Value.slice none (0) (0)].toArray 72 (0, 0))), (0, wm W)] (by kernel_rfl) ?_
              refine VO.k15 0 1 2 6 7 8 9 11 16 30 37 52 53 54 55 ?_
              exact outN ⟨⟨k + 1, cs ++ [x16], A23, c23, m23⟩, ⟨by simp only [List.length_drop, List.length_take]; omega, by rw [hcs]; exact (take_one ‹_›).symm, ho23⟩, by exact fin1_next_ok, ⟨⟨rfl, rfl, rfl, rfl, rfl, rfl, rfl, rfl, rfl, rfl, rfl, rfl, rfl, trivial⟩, fun _ h => Inv.sub h [114, 110, 102, 0]⟩⟩
            · -- FFFFTF
              refine VC.exit ?_
              refine outE ?_
              refine outE ?_
              refine outBB ?_
              refine outN ?_
              refine VC.rs ?_
              refine VO.y rfl (.ldA 110 rfl tk72 rfl (cellsAt_one rfl rfl)) ?_
              refine VO.store (k := 8) (c' := [Value.int .i64 (2), Value.int .i64 (d0), Value.int .u8 (0), Value.int .i64 (0), Value.slice none (0) (0), Value.int .i64 (d2 + 1), Value.int .i64 (x12.1), Value.slice cs_A (cs.length) (cs_c)]) 102 rfl rfl (.inl tk72) rfl rfl rfl rfl rfl ?_
              refine VO.as ?_
              refine VO.k14 0 1 2 6 7 8 9 16 30 37 52 53 54 55 ?_
              refine VC.ret ?_
              refine ⟨_, _, res_run (rs := [.cell 6 72, .tmp 7]) rfl (.agg 102 rfl tk72 rfl ⟨_, _, _, mone_self _ _, Nat.le_of_ble_eq_true rfl, rfl⟩ (.tmp rfl .nil)), fun W_ hI => out_of (l := [cs_m]) hI [114] rfl rfl (mle_refl _) (fun hS_ => ?_)⟩
              dsimp only [packV]
              have he0 : ((shipNext d0 d1 d2).1 : Ty.Den TMessage) = (2, d0, 0, 0, [], d2 + 1, x12.1, cs) := by first | rfl | (exact fin0_next_ok)
              refine ⟨[Value.int .i64 (2), Value.int .i64 (d0), Value.int .u8 (0), Value.int .i64 (0), Value.slice none (0) (0), Value.int .i64 (d2 + 1), Value.int .i64 (x12.1), Value.slice cs_A (cs.length) (cs_c)], ?_, ?_⟩
              rotate_left
              · rw [he0]; exact (mkO_Message 2 d0 0 0 [] (d2 + 1) x12.1 cs (Seps.nilAt 0 hS_) (by simp only [inK]; (exact fin1_next_ok)) (by simp only [inK]; (exact fin1_next_ok)) (by simp only [inK]; (exact fin1_next_ok)) (by simp only [inK]; (exact fin1_next_ok)) (Ow.nil _ _) (by simp only [inK]; (exact fin1_next_ok)) (by simp only [inK]; (exact fin1_next_ok)) h_cs)
              all_goals (first | rfl | (first | (rw [next_wrong ‹_›]; rfl) | (rw [next_arg ‹¬ ¬ _› (by omega)]; rfl) | (rw [next_good ‹¬ ¬ _› ‹_› ‹_› ‹_›]; rfl)))
          · -- FFFFF
            refine VC.skip ?_
            refine outN ?_
            refine VC.seq ?_
            refine VC.rs ?_
            refine VO.mv ?_
            refine VO.mv ?_
            refine VO.mv ?_
            refine VO.y rfl (.add rfl rfl rfl ⟨by exact fin1_next_ok, by exact fin1_next_ok⟩) ?_
            refine VO.mv ?_
            refine VO.y rfl (.lenS rfl tsl61) ?_
            refine VO.y rfl (.minM rfl rfl) ?_
            obtain ⟨A24, hA24, hs24⟩ := h1.sub' 3 ((d2).toNat) ((min (d2 + 4) ((d1.length : Nat) : Int)).toNat) rfl (by exact fin1_next_ok) (by exact fin1_next_ok)
            refine VO.y rfl (.slI ((d2).toNat) ((min (d2 + 4) ((d1.length : Nat) : Int)).toNat) A24 rfl rfl rfl tsl61 (by exact fin1_next_ok) (by exact fin1_next_ok) hA24 (by exact fin1_next_ok) (by exact fin1_next_ok)) ?_
            refine VO.y rfl (.lenS rfl tsl61) ?_
            refine VO.mv ?_
            refine VO.k13 0 1 2 6 7 8 9 16 30 37 52 53 54 ?_
            refine VC.block ?_
            refine VC.inv ((125, mnil) :: _) (fun _ h => h.nilc 125) ?_
            refine VC.loop (G := Nat × (List DCommit) × (Option Addr) × Nat × Mem) (fun g => [(54, Value.int .i64 ((((g.1) : Nat) : Int))), (0, Value.int .i64 (d0)), (1, Value.slice A1 (d1.length) (c1)), (2, Value.int .i64 (d2)), (6, Value.pointer (some ⟨g1, 0, none⟩)), (7, Value.int .i64 (0)), (8, Value.int .i64 (shipWrong d0 d1)), (9, Value.pointer (some ⟨g9, 0, none⟩)), (16, Value.bool (decide (¬ (shipWrong d0 d1) = 0))), (30, Value.bool (decide (d2 = 1048576))), (37, Value.bool (decide (0 < d2))), (52, Value.slice A24 (((min (d2 + 4) ((d1.length : Nat) : Int)).toNat) - ((d2).toNat)) (c1 - ((d2).toNat))), (53, Value.int .i64 (((((min (d2 + 4) ((d1.length : Nat) : Int)).toNat) - ((d2).toNat) : Nat) : Int)))]) (fun g => [(125, (g.2.2.2.2)), (110, mone g9 (.cells [Value.int .i64 (2), Value.int .i64 (d0), Value.int .u8 (0), Value.int .i64 (0), Value.slice none (0) (0), Value.int .i64 (d2 + 1), Value.int .i64 (0), Value.slice (g.2.2.1) ((g.2.1).length) ((g.2.2.2.1))].toArray 72 (0, 0))), (102, mone g1 (.cells [Value.int .i64 (0), Value.int .i64 (0), Value.int .u8 (0), Value.int .i64 (0), Value.slice none (0) (0), Value.int .i64 (0), Value.int .i64 (0), Value.slice none (0) (0)].toArray 72 (0, 0))), (0, wm W)]) (fun g => ((g.1) ≤ ((d1.take (min (d2 + 4) (d1.length : Int)).toNat).drop d2.toNat).length) ∧ ((g.2.1) = ((d1.take (min (d2 + 4) (d1.length : Int)).toNat).drop d2.toNat).take (g.1)) ∧ (Ow (.sl TCommit) (g.2.2.2.2) [.slice (g.2.2.1) (g.2.1).length (g.2.2.2.1)] (g.2.1))) (fun g => ((d1.take (min (d2 + 4) (d1.length : Int)).toNat).drop d2.toNat).length - (g.1)) (0, [], none, 0, mnil) (⟨by simp, by rfl, (Ow.nil TCommit mnil)⟩) ⟨⟨rfl, rfl, rfl, rfl, rfl, rfl, rfl, rfl, rfl, rfl, rfl, rfl, rfl, trivial⟩, fun _ h => h.sub [125, 110, 102, 0]⟩ ?_
            rintro ⟨k, cs, cs_A, cs_c, cs_m⟩ ⟨hk, hcs, h_cs⟩
            replace hk : k ≤ ((d1.take (min (d2 + 4) (d1.length : Int)).toNat).drop d2.toNat).length := hk
            replace hcs : cs = ((d1.take (min (d2 + 4) (d1.length : Int)).toNat).drop d2.toNat).take k := hcs
            replace h_cs : Ow (.sl TCommit) cs_m [.slice cs_A cs.length cs_c] cs := h_cs
            show VC _ _ _ _ _ [(54, Value.int .i64 (((k : Nat) : Int))), (0, Value.int .i64 (d0)), (1, Value.slice A1 (d1.length) (c1)), (2, Value.int .i64 (d2)), (6, Value.pointer (some ⟨g1, 0, none⟩)), (7, Value.int .i64 (0)), (8, Value.int .i64 (shipWrong d0 d1)), (9, Value.pointer (some ⟨g9, 0, none⟩)), (16, Value.bool (decide (¬ (shipWrong d0 d1) = 0))), (30, Value.bool (decide (d2 = 1048576))), (37, Value.bool (decide (0 < d2))), (52, Value.slice A24 (((min (d2 + 4) ((d1.length : Nat) : Int)).toNat) - ((d2).toNat)) (c1 - ((d2).toNat))), (53, Value.int .i64 (((((min (d2 + 4) ((d1.length : Nat) : Int)).toNat) - ((d2).toNat) : Nat) : Int)))] [(125, cs_m), (110, mone g9 (.cells [Value.int .i64 (2), Value.int .i64 (d0), Value.int .u8 (0), Value.int .i64 (0), Value.slice none (0) (0), Value.int .i64 (d2 + 1), Value.int .i64 (0), Value.slice cs_A (cs.length) (cs_c)].toArray 72 (0, 0))), (102, mone g1 (.cells [Value.int .i64 (0), Value.int .i64 (0), Value.int .u8 (0), Value.int .i64 (0), Value.slice none (0) (0), Value.int .i64 (0), Value.int .i64 (0), Value.slice none (0) (0)].toArray 72 (0, 0))), (0, wm W)]
            have l_cs : cs.length ≤ cs_c := by obtain ⟨_, _, he, hl, _⟩ := h_cs.slice; simp only [Value.slice.injEq] at he; omega
            have k_cs : cs_c ≤ 9223372036854775807 := by obtain ⟨_, _, he, _, hl⟩ := h_cs.slice; simp only [Value.slice.injEq, maxLen] at he hl; omega
            have hl0 : ((d1.take (min (d2 + 4) (d1.length : Int)).toNat).drop d2.toNat).length = min (d2.toNat + 4) d1.length - d2.toNat := by simp only [List.length_drop, List.length_take]; omega
            have hlc : cs.length ≤ k := by rw [hcs]; simp; omega
            refine VC.rs ?_
            refine VO.y rfl (.lss rfl rfl) ?_
            refine VO.k14 0 1 2 6 7 8 9 16 30 37 52 53 54 55 ?_
            refine VC.seq ?_
            refine VC.cond rfl (fun hc26 => ?_) (fun hc26 => ?_)
            · -- FFFFFT
              refine VC.skip ?_
              refine outN ?_
              refine VC.seq ?_
              refine VC.block ?_
              refine VC.rs ?_
              obtain ⟨x27, hx27⟩ : ∃ z_, ((d1.take ((min (d2 + 4) ((d1.length : Nat) : Int)).toNat)).drop ((d2).toNat))[k]? = some z_ := ⟨_, List.getElem?_eq_getElem (by exact fin1_next_ok)⟩
              obtain ⟨gg27, oo27, ec27, ea27, hce27, hre27⟩ := hs24.elem hx27
              cases ea27
              obtain ⟨q27_A2, q27_c2, rfl, q27_0, q27_1, q27_2⟩ := open_Commit (x0 := x27.1) (x1 := x27.2.1) (x2 := x27.2.2) hre27
              simp only [inK] at q27_0
              simp only [inK] at q27_1
              have q27_r2 := Rd.room q27_2
              refine VO.y rfl (.ixI k rfl rfl tsl61 rfl (by exact fin1_next_ok)) ?_
              refine VO.y rfl (.ldA 0 rfl tk52 rfl hce27) ?_
              refine VO.alloc 129 rfl tz52 (fun g28 => ?_)
              refine VO.store (k := 3) (c' := [Value.int .i64 (x27.1), Value.int .i64 (x27.2.1), Value.slice q27_A2 (x27.2.2.length) (q27_c2)]) 129 rfl rfl (.inl tk52) rfl rfl rfl rfl rfl ?_
              refine VO.keep [129, 125, 110, 102, 0] [(129, mone g28 (.cells [Value.int .i64 (x27.1), Value.int .i64 (x27.2.1), Value.slice q27_A2 (x27.2.2.length) (q27_c2)].toArray 52 (0, 0))), (125, cs_m), (110, mone g9 (.cells [Value.int .i64 (2), Value.int .i64 (d0), Value.int .u8 (0), Value.int .i64 (0), Value.slice none (0) (0), Value.int .i64 (d2 + 1), Value.int .i64 (0), Value.slice cs_A (cs.length) (cs_c)].toArray 72 (0, 0))), (102, mone g1 (.cells [Value.int .i64 (0), Value.int .i64 (0), Value.int .u8 (0), Value.int .i64 (0), Value.slice none (0) (0), Value.int .i64 (0), Value.int .i64 (0), Value.slice none (0) (0)].toArray 72 (0, 0))), (0, wm W)] (by kernel_rfl) ?_
              refine VO.k15 0 1 2 6 7 8 9 11 16 30 37 52 53 54 55 ?_
              refine VC.regD _ 5 [(0, true), (1, true), (2, true), (3, false), (4, false)] follows (by kernel_rfl) (fun _ h => h.sub [129, 125, 110, 102, 0]) ?_
              refine VD.y rfl rfl (.inl rfl) (.fa rfl tst72 rfl) ?_
              refine VD.y rfl rfl (.inl rfl) (.ld1 110 rfl tk61 rfl (cellsAt_one rfl rfl)) ?_
              refine VD.y rfl rfl (.inl rfl) (.ldA 129 rfl tk52 rfl (cellsAt_one rfl rfl)) ?_
              refine VD.callN 130 rfl rfl (.inl rfl) fnOk60 rfl (fun _ h => h.sub [129, 125, 110, 102, 0]) (fun W hW => cCopy_ok W (Rd.mono hre27 (hW.at (i := 0) rfl)) (by exact fin1_next_ok)) (fun v30 m30 hv30 => ?_)
              obtain ⟨s30_0, rfl, f30_0⟩ := hv30
              obtain ⟨q30_0_A2, q30_0_c2, q30_0_n2, rfl, q30_0_S, q30_0_0, q30_0_1, q30_0_2⟩ := openO_Commit (x0 := x27.1) (x1 := x27.2.1) (x2 := x27.2.2) f30_0
              simp only [inK] at q30_0_0
              simp only [inK] at q30_0_1
              have q30_0_r2 := Rd.room (q30_0_2.rd (mle_refl _))
              refine VD.inv _ (fun _ h => h.parts (i := 130) rfl q30_0_S [131]) ?_
              refine VD.bsl (cs := [Value.int .i64 (x27.1), Value.int .i64 (x27.2.1), Value.slice q30_0_A2 (x27.2.2.length) (q30_0_c2)]) 133 rfl rfl rfl tsl61 tz52 rfl rfl (fun _ h => h.sub [129, 125, 110, 102, 0]) (fun g32 => ?_)
              refine VD.nil rfl ?_ rfl
              refine VO.appO (e := TCommit) 125 131 133 rfl rfl rfl tsl61 tz52 rfl rfl rfl rfl h_cs (show Ow TCommit _ _ x27 from (mkO_Commit x27.1 x27.2.1 x27.2.2 (Seps.one (mle_refl _)) (by simp only [inK]; (exact fin1_next_ok)) (by simp only [inK]; (exact fin1_next_ok)) (OwnL.ow (Ow.ownl q30_0_2 rfl mnil) rfl))) Try.underlying61 (cellsAt_one rfl rfl) (by simp only [maxLen]; (exact fin1_next_ok)) (by exact fin1_next_ok) (by decide) (fun v34 m34 ho34 => ?_)
              obtain ⟨A34, c34, rfl, l34, k34⟩ := ho34.slice
              simp only [maxLen] at k34
              refine VO.y rfl (.fa rfl tst72 rfl) ?_
              refine VO.store (k := 1) (c' := [Value.int .i64 (2), Value.int .i64 (d0), Value.int .u8 (0), Value.int .i64 (0), Value.slice none (0) (0), Value.int .i64 (d2 + 1), Value.int .i64 (0), Value.slice A34 ((cs ++ [x27]).length) (c34)]) 110 rfl rfl (.inr ⟨tk61, rfl⟩) rfl rfl rfl rfl rfl ?_
              refine VO.k15 0 1 2 6 7 8 9 11 16 30 37 52 53 54 55 ?_
              refine outBN ?_
              refine outN ?_
              refine VC.reg ?_
              refine VO.y rfl (.add (c := ((k + 1 : Nat) : Int)) rfl rfl (by omega) ⟨by exact fin1_next_ok, by exact fin1_next_ok⟩) ?_
              refine VO.mv ?_
              refine VO.k15 0 1 2 6 7 8 9 11 16 30 37 52 53 54 55 ?_
              exact outN ⟨⟨k + 1, cs ++ [x27], A34, c34, m34⟩, ⟨by simp only [List.length_drop, List.length_take]; omega, by rw [hcs]; exact (take_one ‹_›).symm, ho34⟩, by exact fin1_next_ok, ⟨⟨rfl, rfl, rfl, rfl, rfl, rfl, rfl, rfl, rfl, rfl, rfl, rfl, rfl, trivial⟩, fun _ h => Inv.sub h [125, 110, 102, 0]⟩⟩
            · -- FFFFFF
              refine VC.exit ?_
              refine outE ?_
              refine outE ?_
              refine outBB ?_
              refine outN ?_
              refine VC.rs ?_
              refine VO.y rfl (.ldA 110 rfl tk72 rfl (cellsAt_one rfl rfl)) ?_
              refine VO.store (k := 8) (c' := [Value.int .i64 (2), Value.int .i64 (d0), Value.int .u8 (0), Value.int .i64 (0), Value.slice none (0) (0), Value.int .i64 (d2 + 1), Value.int .i64 (0), Value.slice cs_A (cs.length) (cs_c)]) 102 rfl rfl (.inl tk72) rfl rfl rfl rfl rfl ?_
              refine VO.as ?_
              refine VO.keep [125, 110, 102, 0] [(125, cs_m), (110, mone g9 (.cells [Value.int .i64 (2), Value.int .i64 (d0), Value.int .u8 (0), Value.int .i64 (0), Value.slice none (0) (0), Value.int .i64 (d2 + 1), Value.int .i64 (0), Value.slice cs_A (cs.length) (cs_c)].toArray 72 (0, 0))), (102, mone g1 (.cells [Value.int .i64 (2), Value.int .i64 (d0), Value.int .u8 (0), Value.int .i64 (0), Value.slice none (0) (0), Value.int .i64 (d2 + 1), Value.int .i64 (0), Value.slice cs_A (cs.length) (cs_c)].toArray 72 (0, 0))), (0, wm W)] (by kernel_rfl) ?_
              refine VO.k14 0 1 2 6 7 8 9 16 30 37 52 53 54 55 ?_
              refine VC.ret ?_
              refine ⟨_, _, res_run (rs := [.cell 6 72, .tmp 7]) rfl (.agg 102 rfl tk72 rfl ⟨_, _, _, mone_self _ _, Nat.le_of_ble_eq_true rfl, rfl⟩ (.tmp rfl .nil)), fun W_ hI => out_of (l := [cs_m]) hI [125] rfl rfl (mle_refl _) (fun hS_ => ?_)⟩
              dsimp only [packV]
              have he0 : ((shipNext d0 d1 d2).1 : Ty.Den TMessage) = (2, d0, 0, 0, [], d2 + 1, 0, cs) := by first | rfl | (exact fin0_next_ok)
              refine ⟨[Value.int .i64 (2), Value.int .i64 (d0), Value.int .u8 (0), Value.int .i64 (0), Value.slice none (0) (0), Value.int .i64 (d2 + 1), Value.int .i64 (0), Value.slice cs_A (cs.length) (cs_c)], ?_, ?_⟩
              rotate_left
              · rw [he0]; exact (mkO_Message 2 d0 0 0 [] (d2 + 1) 0 cs (Seps.nilAt 0 hS_) (by simp only [inK]; (exact fin1_next_ok)) (by simp only [inK]; (exact fin1_next_ok)) (by simp only [inK]; (exact fin1_next_ok)) (by simp only [inK]; (exact fin1_next_ok)) (Ow.nil _ _) (by simp only [inK]; (exact fin1_next_ok)) (by simp only [inK]; (exact fin1_next_ok)) h_cs)
              all_goals (first | rfl | (first | (rw [next_wrong ‹_›]; rfl) | (rw [next_arg ‹¬ ¬ _› (by omega)]; rfl) | (rw [next_good ‹¬ ¬ _› ‹_› ‹_› ‹_›]; rfl)))
end
section
set_option linter.unusedVariables false
def epochAt (l : List DCommit) (n : Int) : Int := match l[n.toNat]? with
  | some c => c.1
  | none => 0
def fitsM (l : List DCommit) (m : DMessage) : Prop := (1 < m.2.2.2.2.2.1 → epochAt l (m.2.2.2.2.2.1 - 2) = m.2.2.2.2.2.2.1) ∧ ∀ c ∈ m.2.2.2.2.2.2.2, c.2.1 ≤ l.length → epochAt l (c.2.1 - 1) = c.1
instance (l : List DCommit) (m : DMessage) : Decidable (fitsM l m) := by unfold fitsM; infer_instance
section
variable {e : Int} {l : List DCommit} {m : DMessage}
theorem lCheck_ship (h : lCheck m = 0) (h2 : m.1 = 2) : shipM m := by
  unfold lCheck at h
  split at h
  · rename_i h3
    rcases h3.2 with h4 | h4 | h4
    · omega
    · exact h4.2
    · omega
  · cases h
end
end
section
set_option linter.unusedVariables false
set_option linter.unusedSimpArgs false
set_option maxRecDepth 4000
theorem fnOk87 : fnOk Try.prog 87 = true := by kernel_rfl
theorem tsl96 : tsl Try.prog 96 = some (3, 1, 8) := by kernel_rfl
theorem tz3 : tz Try.prog 3 = some [.int .i64 0] := by kernel_rfl
end
section
set_option linter.unusedVariables false
set_option linter.unusedSimpArgs false
set_option maxRecDepth 4000
theorem pick_ok (W : World) (d0 : Int) (h0 : inK .i64 d0) (d1 : Int) (h1 : inK .i64 d1) (e0 : 0 < d1) : CallR Try.prog 43 [.int .i64 d0, .int .i64 d1] W (mnil) (fun v m' => v = .int .i64 (pickI d0 d1)) := by
  have h0' := h0; simp only [inK] at h0'
  have h1' := h1; simp only [inK] at h1'
  refine CallR.ofA (n := 14) Try.func43 rfl rfl rfl ?_
  refine VC.rs ?_
  refine VO.as ?_
  refine VO.k3 0 1 4 ?_
  refine VC.rs ?_
  refine VO.mv ?_
  refine VO.mv ?_
  have hm1 := tmod_bounds (d0) (d1) bd
  refine VO.y rfl (.quo (.inr rfl) rfl rfl (rem_int _ _ _ bd)) ?_
  refine VO.as ?_
  refine VO.k3 0 1 4 ?_
  refine VC.seq ?_
  refine VC.rs ?_
  refine VO.mv ?_
  refine VO.y rfl (.lss rfl rfl) ?_
  refine VO.keep [0] [(0, wm W)] (by kernel_rfl) ?_
  refine VO.k4 0 1 4 9 ?_
  refine VC.cond rfl (fun hc2 => ?_) (fun hc2 => ?_)
  · -- T
    refine VC.reg ?_
    refine VO.mv ?_
    refine VO.mv ?_
    refine VO.y rfl (.add rfl rfl rfl ⟨bd, bd⟩) ?_
    refine VO.as ?_
    refine VO.k4 0 1 4 9 ?_
    refine outN ?_
    refine VC.rs ?_
    refine VO.mv ?_
    refine VO.as ?_
    refine VO.k4 0 1 4 9 ?_
    refine VC.ret ?_
    refine ⟨_, _, res_run (rs := [.tmp 4]) rfl (.tmp rfl .nil), fun W_ hI => out_of (l := []) hI [] rfl rfl (mle_refl _) (fun hS_ => ?_)⟩
    dsimp only [packV]
    all_goals (first | rfl | (congr 1; unfold pickI; split <;> omega))
  · -- F
    refine VC.skip ?_
    refine outN ?_
    refine VC.rs ?_
    refine VO.mv ?_
    refine VO.as ?_
    refine VO.k4 0 1 4 9 ?_
    refine VC.ret ?_
    refine ⟨_, _, res_run (rs := [.tmp 4]) rfl (.tmp rfl .nil), fun W_ hI => out_of (l := []) hI [] rfl rfl (mle_refl _) (fun hS_ => ?_)⟩
    dsimp only [packV]
    all_goals (first | rfl | (congr 1; unfold pickI; split <;> omega))
theorem small17_ok (W : World) {v0 : Value} {d0 : List DCommit} (h0 : Rd (.sl TCommit) (wm W) [v0] d0) : CallR Try.prog 72 [v0] W (mnil) (fun v m' => v = .bool (decide ((∀ c ∈ d0, c.2.2.length ≤ 40) ∧ d0.length ≤ 40))) := by
  obtain ⟨A0, c0, rfl, l0, k0⟩ := h0.slice
  simp only [maxLen] at k0
  refine CallR.ofA (n := 20) Try.func72 rfl rfl rfl ?_
  refine VC.rs ?_
  refine VO.as ?_
  refine VO.k2 0 2 ?_
  refine VC.seq ?_
  refine VC.rs ?_
  refine VO.as ?_
  refine VO.k3 0 2 3 ?_
  refine VC.block ?_
  refine VC.loop (G := Nat) (fun k => [(3, Value.int .i64 (((k : Nat) : Int))), (0, Value.slice A0 (d0.length) (c0))]) (fun k => [(0, wm W)]) (fun k => (k ≤ d0.length) ∧ (∀ c ∈ d0.take k, c.2.2.length ≤ 40)) (fun k => d0.length - k) 0 (⟨by omega, by simp⟩) ⟨⟨rfl, rfl, trivial⟩, fun _ h => h.sub [0]⟩ ?_
  rintro k ⟨hk, ha⟩
  refine VC.seq ?_
  refine VC.rs ?_
  refine VO.mv ?_
  refine VO.mv ?_
  refine VO.y rfl (.lenS rfl tsl61) ?_
  refine VO.y rfl (.lss rfl rfl) ?_
  refine VO.keep [0] [(0, wm W)] (by kernel_rfl) ?_
  refine VO.k3 0 3 7 ?_
  refine VC.cond rfl (fun hc1 => ?_) (fun hc1 => ?_)
  · -- T
    refine VC.skip ?_
    refine outN ?_
    refine VC.seq ?_
    refine VC.block ?_
    refine VC.rs ?_
    refine VO.mv ?_
    refine VO.mv ?_
    obtain ⟨x2, hx2⟩ : ∃ z_, (d0)[k]? = some z_ := ⟨_, List.getElem?_eq_getElem bd⟩
    obtain ⟨gg2, oo2, ec2, ea2, hce2, hre2⟩ := h0.elem hx2
    cases ea2
    obtain ⟨q2_A2, q2_c2, rfl, q2_0, q2_1, q2_2⟩ := open_Commit (x0 := x2.1) (x1 := x2.2.1) (x2 := x2.2.2) hre2
    simp only [inK] at q2_0
    simp only [inK] at q2_1
    have q2_r2 := Rd.room q2_2
    refine VO.y rfl (.ixI k rfl rfl tsl61 rfl bd) ?_
    refine VO.y rfl (.fa rfl tst52 rfl) ?_
    refine VO.y rfl (.ld1 0 rfl tk22 rfl (hce2.at1 (j := 2) rfl)) ?_
    refine VO.y rfl (.lenS rfl tsl22) ?_
    refine VO.y rfl (.gtr rfl rfl) ?_
    refine VO.k4 0 3 7 16 ?_
    refine VC.cond rfl (fun hc3 => ?_) (fun hc3 => ?_)
    · -- TT
      refine VC.rs ?_
      refine VO.as ?_
      refine VO.k5 0 2 3 7 16 ?_
      refine VC.ret ?_
      refine outBR ?_
      refine outR ?_
      refine outR ?_
      refine outBR ?_
      refine outR ?_
      refine ⟨_, _, res_run (rs := [.tmp 2]) rfl (.tmp rfl .nil), fun W_ hI => out_of (l := []) hI [] rfl rfl (mle_refl _) (fun hS_ => ?_)⟩
      dsimp only [packV]
      all_goals (first | rfl | (first | exact congrArg Value.bool (decide_eq_false (fun e => by have := e.1 _ (List.mem_of_getElem? ‹d0[k]? = some _›); omega)).symm | exact congrArg Value.bool (decide_eq_decide.2 (by have ha2 := ha; rw [List.take_of_length_le (by omega)] at ha2; exact ⟨fun h => ⟨ha2, by omega⟩, fun h => by omega⟩))))
    · -- TF
      refine VC.skip ?_
      refine outBN ?_
      refine outN ?_
      refine VC.reg ?_
      refine VO.mv ?_
      refine VO.y rfl (.add (c := ((k + 1 : Nat) : Int)) rfl rfl (by omega) ⟨bd, bd⟩) ?_
      refine VO.as ?_
      refine VO.k4 0 3 7 16 ?_
      exact outN ⟨k + 1, ⟨by omega, by exact all_next ha ‹d0[k]? = some _› (by omega)⟩, bd, ⟨⟨rfl, rfl, trivial⟩, fun _ h => Inv.sub h [0]⟩⟩
  · -- F
    refine VC.exit ?_
    refine outE ?_
    refine outE ?_
    refine outBB ?_
    refine outN ?_
    refine VC.rs ?_
    refine VO.mv ?_
    refine VO.y rfl (.lenS rfl tsl61) ?_
    refine VO.y rfl (.leq rfl rfl) ?_
    refine VO.as ?_
    refine VO.k4 0 2 3 7 ?_
    refine VC.ret ?_
    refine ⟨_, _, res_run (rs := [.tmp 2]) rfl (.tmp rfl .nil), fun W_ hI => out_of (l := []) hI [] rfl rfl (mle_refl _) (fun hS_ => ?_)⟩
    dsimp only [packV]
    all_goals (first | rfl | (first | exact congrArg Value.bool (decide_eq_false (fun e => by have := e.1 _ (List.mem_of_getElem? ‹d0[k]? = some _›); omega)).symm | exact congrArg Value.bool (decide_eq_decide.2 (by have ha2 := ha; rw [List.take_of_length_le (by omega)] at ha2; exact ⟨fun h => ⟨ha2, by omega⟩, fun h => by omega⟩))))
end
section
set_option linter.unusedVariables false
theorem follows_cons {e n i : Int} {c : DCommit} {r : List DCommit} (h : (cFollowsAt e n i (c :: r)).1 = 0) : cCheck c = 0 ∧ c.2.1 = n + 1 ∧ e ≤ c.1 ∧ (cFollowsAt c.1 c.2.1 (i + 1) r).1 = 0 := by
  unfold cFollowsAt at h
  split at h
  · exact absurd h (by assumption)
  · rename_i h1
    split at h
    · cases h
    · exact ⟨Decidable.not_not.1 h1, by omega, by omega, h⟩
theorem follows_mk {e n i : Int} {c : DCommit} {r : List DCommit} (h1 : cCheck c = 0) (h2 : c.2.1 = n + 1) (h3 : e ≤ c.1) (h4 : (cFollowsAt c.1 c.2.1 (i + 1) r).1 = 0) : (cFollowsAt e n i (c :: r)).1 = 0 := by
  unfold cFollowsAt
  rw [if_neg (by omega), if_neg (by omega)]
  exact h4
theorem follows_idx : ∀ {l : List DCommit} {e n i : Int} (j : Int), (cFollowsAt e n i l).1 = 0 → (cFollowsAt e n j l).1 = 0
  | [], _, _, _, _, _ => rfl
  | c :: r, e, n, i, j, h => by
    obtain ⟨h1, h2, h3, h4⟩ := follows_cons h
    exact follows_mk h1 h2 h3 (follows_idx (j + 1) h4)
theorem follows_take : ∀ {l : List DCommit} {e n i : Int} (k : Nat), (cFollowsAt e n i l).1 = 0 → (cFollowsAt e n i (l.take k)).1 = 0
  | [], _, _, _, _, _ => by simp [cFollowsAt]
  | c :: r, _, _, _, 0, _ => rfl
  | c :: r, e, n, i, k + 1, h => by
    obtain ⟨h1, h2, h3, h4⟩ := follows_cons h
    exact follows_mk h1 h2 h3 (follows_take k h4)
theorem follows_get : ∀ {l : List DCommit} {e n i : Int} {k : Nat} {x : DCommit}, (cFollowsAt e n i l).1 = 0 → l[k]? = some x → x.2.1 = n + k + 1 ∧ e ≤ x.1 ∧ cCheck x = 0 ∧ ∀ j, (cFollowsAt x.1 x.2.1 j (l.drop (k + 1))).1 = 0
  | c :: r, e, n, i, 0, x, h, hx => by
    obtain ⟨h1, h2, h3, h4⟩ := follows_cons h
    simp at hx; subst hx
    exact ⟨by omega, h3, h1, fun j => follows_idx j h4⟩
  | c :: r, e, n, i, k + 1, x, h, hx => by
    obtain ⟨h1, h2, h3, h4⟩ := follows_cons h
    obtain ⟨k1, k2, k3, k4⟩ := follows_get h4 (k := k) (x := x) (by simpa using hx)
    exact ⟨by push_cast; omega, by omega, k3, k4⟩
def lastE (l : List DCommit) : Int := match l.getLast? with
  | some c => c.1
  | none => 1
theorem lastE_of {l : List DCommit} {k : Nat} {x : DCommit} (hx : l[k]? = some x) (h0 : k + 1 = l.length) : lastE l = x.1 := by
  unfold lastE; rw [List.getLast?_eq_getElem?, show l.length - 1 = k by omega, hx]
theorem lastE_nil {l : List DCommit} (h : l.length = 0) : lastE l = 1 := by rw [List.eq_nil_of_length_eq_zero h]; rfl
theorem lastE_range {l : List DCommit} (h : (cFollows 0 0 l).1 = 0) : 1 ≤ lastE l ∧ lastE l ≤ 1048576 := by
  by_cases h0 : l.length = 0
  · rw [lastE_nil h0]; omega
  · have hk : l[l.length - 1]? = some l[l.length - 1] := List.getElem?_eq_getElem (by omega)
    rw [lastE_of hk (by omega)]
    have := cCheck_ok (follows_get h hk).2.2.1
    omega
theorem wrong_last {l : List DCommit} (h : (cFollows 0 0 l).1 = 0) : shipWrong (lastE l) l = 0 := by
  have hr := lastE_range h
  by_cases h0 : l.length = 0
  · exact wrong_none (by omega) (by omega) (by omega) h0
  · have hk : l[l.length - 1]? = some l[l.length - 1] := List.getElem?_eq_getElem (by omega)
    exact wrong_good (by omega) (by omega) (by omega) hk (by omega) (by rw [lastE_of hk (by omega)]; omega)
theorem sGo_snoc {en : Int} {s : DStart} : ∀ {S : List DStart} {le lf : Int} {i : Nat}, sGo en le lf i S → (S = [] → le < s.1 ∧ lf < s.2 ∧ (i = 0 → s.2 = 1)) → (∀ t, S.getLast? = some t → t.1 < s.1 ∧ t.2 < s.2) → s.1 ≤ 1048576 → s.2 ≤ en → sGo en le lf i (S ++ [s])
  | [], le, lf, i, _, h0, _, h2, h3 => by
    obtain ⟨a, b, c⟩ := h0 rfl
    exact ⟨a, h2, b, h3, c, trivial⟩
  | t :: r, le, lf, i, h, _, h1, h2, h3 => by
    obtain ⟨a, b, c, d, f, g⟩ := h
    refine ⟨a, b, c, d, f, sGo_snoc g (fun hr => ?_) (fun u hu => h1 u ?_) h2 h3⟩
    · subst hr
      have := h1 t rfl
      exact ⟨this.1, this.2, fun h => by omega⟩
    · cases r with
      | nil => cases hu
      | cons v w => simpa [List.getLast?_cons_cons] using hu
def sInv (en e n : Int) (S : List DStart) : Prop := sGo en 0 0 0 S ∧ 0 ≤ n ∧ (S = [] ↔ n = 0) ∧ ∀ t, S.getLast? = some t → t.1 = e ∧ t.2 ≤ n
theorem sInv_step {en e n : Int} {S : List DStart} {c : DCommit} (h : sInv en e n S) (h1 : cCheck c = 0) (h2 : c.2.1 = n + 1) (h3 : e ≤ c.1) (h4 : n + 1 ≤ en) : sInv en c.1 c.2.1 (sGrown S c) := by
  obtain ⟨a, b, d, f⟩ := h
  have hc := cCheck_ok h1
  unfold sGrown
  cases hl : S.getLast? with
  | none =>
    have hS : S = [] := List.getLast?_eq_none_iff.1 hl
    subst hS
    have hn := d.1 rfl
    refine ⟨?_, by omega, by simp; omega, fun t ht => ?_⟩
    · exact ⟨by simp only; omega, by simp only; omega, by simp only; omega, by simp only; omega, fun _ => by simp only; omega, trivial⟩
    · simp at ht; subst ht; exact ⟨rfl, Int.le_refl _⟩
  | some t =>
    obtain ⟨k1, k2⟩ := f t hl
    have hne : S ≠ [] := by rintro rfl; cases hl
    dsimp only
    split
    · rename_i he
      refine ⟨a, by omega, ⟨fun h => absurd h hne, fun h => by omega⟩, fun u hu => ?_⟩
      rw [hl] at hu; cases hu
      exact ⟨he, by omega⟩
    · rename_i he
      refine ⟨sGo_snoc a (fun h => absurd h hne) (fun u hu => ?_) (by simp only; omega) (by simp only; omega), by omega, ⟨fun h => by simp at h, fun h => by omega⟩, fun u hu => ?_⟩
      · rw [hl] at hu; cases hu
        simp only
        omega
      · simp at hu; subst hu; exact ⟨rfl, Int.le_refl _⟩
theorem sInv_fold {en : Int} : ∀ {l : List DCommit} {e n i : Int} {S : List DStart}, (cFollowsAt e n i l).1 = 0 → sInv en e n S → n + l.length ≤ en → ∃ e', sInv en e' (n + l.length) (l.foldl sGrown S) ∧ (∀ x, l.getLast? = some x → x.1 = e') ∧ (l = [] → e' = e)
  | [], e, n, i, S, _, h, _ => ⟨e, by simpa using h, fun x hx => (by cases hx), fun _ => rfl⟩
  | c :: r, e, n, i, S, h, hS, hl => by
    obtain ⟨h1, h2, h3, h4⟩ := follows_cons h
    simp only [List.length_cons] at hl
    obtain ⟨e', k1, k2, k3⟩ := sInv_fold h4 (sInv_step (en := en) hS h1 h2 h3 (by omega)) (by omega)
    refine ⟨e', ?_, fun x hx => ?_, fun h => by cases h⟩
    · simp only [List.foldl_cons, List.length_cons]
      rw [show n + ((r.length + 1 : Nat) : Int) = c.2.1 + r.length by omega]
      exact k1
    · cases r with
      | nil => simp at hx; subst hx; exact (k3 rfl).symm
      | cons v w => exact k2 x (by simpa [List.getLast?_cons_cons] using hx)
theorem sOf_facts {l : List DCommit} (h : (cFollows 0 0 l).1 = 0) : sCheck (sOf l).1 l.length = 0 ∧ lastOk (sOf l).1 (lastE l) = true := by
  have hlen := follows_len (e := 0) (n := 0) (i := 0) h (by omega)
  obtain ⟨e', k1, k2, k3⟩ := sInv_fold (en := l.length) (S := []) h ⟨trivial, Int.le_refl _, by simp, fun t ht => by cases ht⟩ (by omega)
  rw [sOf_good1 (by omega)]
  obtain ⟨a, b, d, f⟩ := k1
  constructor
  · refine if_pos ⟨by omega, by omega, ?_, a⟩
    rw [Int.zero_add] at d
    rw [← d]
    simp
  · unfold lastOk
    cases hl : (l.foldl sGrown []).getLast? with
    | none => rfl
    | some t =>
      have h1 := (f t hl).1
      apply decide_eq_true
      rw [h1]
      by_cases h0 : l.length = 0
      · rw [k3 (List.eq_nil_of_length_eq_zero h0)]
        have := lastE_range h
        omega
      · have hk : l[l.length - 1]? = some l[l.length - 1] := List.getElem?_eq_getElem (by omega)
        rw [lastE_of hk (by omega), k2 l[l.length - 1] (by rw [List.getLast?_eq_getElem?]; exact hk)]
        exact Int.le_refl _
theorem hello_lCheck {l : List DCommit} {r : Int} (h : (cFollows 0 0 l).1 = 0) (hr : 1 ≤ r ∧ r ≤ 3) : shipHello (lastE l) r l = ((1, lastE l, r, (l.length : Int), (sOf l).1, 0, 0, []), 0) ∧ lCheck (1, lastE l, r, (l.length : Int), (sOf l).1, 0, 0, []) = 0 := by
  refine ⟨hello_good (by rw [wrong_last h]; omega) (by omega) (by omega), lCheck_good ⟨lastE_range h, .inl ⟨rfl, hr, ?_, ?_, rfl, rfl, rfl⟩⟩⟩
  · exact (sOf_facts h).1
  · exact (sOf_facts h).2
end
section
set_option linter.unusedVariables false
set_option linter.unusedSimpArgs false
set_option maxRecDepth 4000
theorem fnOk103 : fnOk Try.prog 103 = true := by kernel_rfl
theorem fnOk41 : fnOk Try.prog 41 = true := by kernel_rfl
theorem fnOk62 : fnOk Try.prog 62 = true := by kernel_rfl
theorem eqOps_ok (W : World) {v0 : Value} {d0 : List DOp} (h0 : Rd (.sl TOp) (wm W) [v0] d0) {v1 : Value} {d1 : List DOp} (h1 : Rd (.sl TOp) (wm W) [v1] d1) : CallR Try.prog 103 [v0, v1] W (mnil) (fun v m' => v = .bool (decide (d0 = d1))) := by
  obtain ⟨A0, c0, rfl, l0, k0⟩ := h0.slice
  simp only [maxLen] at k0
  obtain ⟨A1, c1, rfl, l1, k1⟩ := h1.slice
  simp only [maxLen] at k1
  refine CallR.ofA (n := 26) Try.func103 rfl rfl rfl ?_
  refine VC.rs ?_
  refine VO.as ?_
  refine VO.k3 0 1 4 ?_
  refine VC.seq ?_
  refine VC.rs ?_
  refine VO.mv ?_
  refine VO.y rfl (.lenS rfl tsl22) ?_
  refine VO.mv ?_
  refine VO.y rfl (.lenS rfl tsl22) ?_
  refine VO.y rfl (.neq rfl rfl) ?_
  refine VO.k4 0 1 4 10 ?_
  refine VC.cond rfl (fun hc1 => ?_) (fun hc1 => ?_)
  · -- T
    refine VC.rs ?_
    refine VO.as ?_
    refine VO.keep [0] [(0, wm W)] (by kernel_rfl) ?_
    refine VO.k4 0 1 4 10 ?_
    refine VC.ret ?_
    refine outR ?_
    refine ⟨_, _, res_run (rs := [.tmp 4]) rfl (.tmp rfl .nil), fun W_ hI => out_of (l := []) hI [] rfl rfl (mle_refl _) (fun hS_ => ?_)⟩
    dsimp only [packV]
    all_goals (first | rfl | (simp [len_ne hc1]))
  · -- F
    refine VC.skip ?_
    refine outN ?_
    refine VC.seq ?_
    refine VC.rs ?_
    refine VO.mv ?_
    refine VO.y rfl (.lenS rfl tsl22) ?_
    refine VO.mv ?_
    refine VO.keep [0] [(0, wm W)] (by kernel_rfl) ?_
    refine VO.k6 0 1 4 10 12 13 ?_
    refine VC.block ?_
    refine VC.loop (G := Nat) (fun k => [(13, Value.int .i64 (((k : Nat) : Int))), (0, Value.slice A0 (d0.length) (c0)), (1, Value.slice A1 (d1.length) (c1)), (10, Value.bool (decide (¬ ((d0.length : Nat) : Int) = ((d1.length : Nat) : Int)))), (12, Value.int .i64 (((d0.length : Nat) : Int)))]) (fun k => [(0, wm W)]) (fun k => (k ≤ d0.length) ∧ (d0.take k = d1.take k)) (fun k => d0.length - k) 0 (⟨by omega, by rfl⟩) ⟨⟨rfl, rfl, rfl, rfl, rfl, trivial⟩, fun _ h => h.sub [0]⟩ ?_
    rintro k ⟨hk, ht⟩
    refine VC.rs ?_
    refine VO.y rfl (.lss rfl rfl) ?_
    refine VO.k6 0 1 10 12 13 14 ?_
    refine VC.seq ?_
    refine VC.cond rfl (fun hc2 => ?_) (fun hc2 => ?_)
    · -- FT
      refine VC.skip ?_
      refine outN ?_
      refine VC.seq ?_
      refine VC.block ?_
      refine VC.rs ?_
      refine VO.mv ?_
      refine VO.as ?_
      refine VO.k7 0 1 5 10 12 13 14 ?_
      refine VC.seq ?_
      refine VC.regD _ 8 [(0, true), (1, true), (2, true), (3, true), (4, true), (5, true), (6, true), (7, true)] follows (by kernel_rfl) (fun _ h => h.sub [0]) ?_
      refine VD.y rfl rfl (.inl rfl) (.mv rfl) ?_
      refine VD.y rfl rfl (.inl rfl) (.mv rfl) ?_
      obtain ⟨x3, hx3⟩ : ∃ z_, (d0)[k]? = some z_ := ⟨_, List.getElem?_eq_getElem bd⟩
      obtain ⟨gg3, oo3, ec3, ea3, hce3, hre3⟩ := h0.elem hx3
      cases ea3
      obtain ⟨rfl, q3_1, q3_2⟩ := open_Op (x0 := x3.1) (x1 := x3.2.1) (x2 := x3.2.2) hre3
      simp only [maxLen] at q3_1
      simp only [maxLen] at q3_2
      refine VD.y rfl rfl (.inl rfl) (.ixI k rfl rfl tsl22 rfl bd) ?_
      refine VD.y rfl rfl (.inl rfl) (.ldA 0 rfl tk49 rfl hce3) ?_
      refine VD.y rfl rfl (.inl rfl) (.mv rfl) ?_
      refine VD.y rfl rfl (.inl rfl) (.mv rfl) ?_
      obtain ⟨x4, hx4⟩ : ∃ z_, (d1)[k]? = some z_ := ⟨_, List.getElem?_eq_getElem bd⟩
      obtain ⟨gg4, oo4, ec4, ea4, hce4, hre4⟩ := h1.elem hx4
      cases ea4
      obtain ⟨rfl, q4_1, q4_2⟩ := open_Op (x0 := x4.1) (x1 := x4.2.1) (x2 := x4.2.2) hre4
      simp only [maxLen] at q4_1
      simp only [maxLen] at q4_2
      refine VD.y rfl rfl (.inl rfl) (.ixI k rfl rfl tsl22 rfl bd) ?_
      refine VD.y rfl rfl (.inl rfl) (.ldA 0 rfl tk49 rfl hce4) ?_
      refine VD.nil rfl ?_ rfl
      refine VO.y rfl (.stneq (p := x3.1 = x4.1 ∧ x3.2.1 = x4.2.1 ∧ x3.2.2 = x4.2.2) rfl rfl (teq49 x3.1 x3.2.1 x3.2.2) (teq49 x4.1 x4.2.1 x4.2.2) (by simp [ceq, ba_toList])) ?_
      refine VO.keep [0] [(0, wm W)] (by kernel_rfl) ?_
      refine VO.k8 0 1 5 10 12 13 14 24 ?_
      refine outN ?_
      refine VC.cond rfl (fun hc5 => ?_) (fun hc5 => ?_)
      · -- FTT
        refine VC.rs ?_
        refine VO.as ?_
        refine VO.k9 0 1 4 5 10 12 13 14 24 ?_
        refine VC.ret ?_
        refine outBR ?_
        refine outR ?_
        refine outR ?_
        refine outBR ?_
        refine outR ?_
        refine ⟨_, _, res_run (rs := [.tmp 4]) rfl (.tmp rfl .nil), fun W_ hI => out_of (l := []) hI [] rfl rfl (mle_refl _) (fun hS_ => ?_)⟩
        dsimp only [packV]
        all_goals (first | rfl | (simp [get_ne ‹d0[k]? = some _› ‹d1[k]? = some _› (op_ne ‹_›)]))
      · -- FTF
        refine VC.skip ?_
        refine outBN ?_
        refine outN ?_
        refine VC.reg ?_
        refine VO.y rfl (.add (c := ((k + 1 : Nat) : Int)) rfl rfl (by omega) ⟨bd, bd⟩) ?_
        refine VO.mv ?_
        refine VO.k8 0 1 5 10 12 13 14 24 ?_
        exact outN ⟨k + 1, ⟨by omega, by exact take_next ht ‹d0[k]? = some _› ‹d1[k]? = some _› (op_eq (by simpa using ‹¬ ¬ _›))⟩, bd, ⟨⟨rfl, rfl, rfl, rfl, rfl, trivial⟩, fun _ h => Inv.sub h [0]⟩⟩
    · -- FF
      refine VC.exit ?_
      refine outE ?_
      refine outE ?_
      refine outBB ?_
      refine outN ?_
      refine VC.rs ?_
      refine VO.as ?_
      refine VO.k7 0 1 4 10 12 13 14 ?_
      refine VC.ret ?_
      refine ⟨_, _, res_run (rs := [.tmp 4]) rfl (.tmp rfl .nil), fun W_ hI => out_of (l := []) hI [] rfl rfl (mle_refl _) (fun hS_ => ?_)⟩
      dsimp only [packV]
      all_goals (first | rfl | (simp [take_all ht (by omega) (by omega)]))
theorem bSame_ok (W : World) {v0 : Value} {d0 : List DOp} (h0 : Rd (.sl TOp) (wm W) [v0] d0) {v1 : Value} {d1 : List DOp} (h1 : Rd (.sl TOp) (wm W) [v1] d1) : CallR Try.prog 41 [v0, v1] W (mnil) (fun v m' => v = .bool (decide (d0 = d1))) := by
  obtain ⟨A0, c0, rfl, l0, k0⟩ := h0.slice
  simp only [maxLen] at k0
  obtain ⟨A1, c1, rfl, l1, k1⟩ := h1.slice
  simp only [maxLen] at k1
  refine CallR.ofA (n := 8) Try.func41 rfl rfl rfl ?_
  refine VC.rs ?_
  refine VO.as ?_
  refine VO.k3 0 1 4 ?_
  refine VC.rs ?_
  refine VO.mv ?_
  refine VO.mv ?_
  refine VO.callN 101 rfl fnOk103 rfl (fun W hW => eqOps_ok W (Rd.mono h0 (hW.at (i := 0) rfl)) (Rd.mono h1 (hW.at (i := 0) rfl))) (fun v1 m1 hv1 => ?_)
  subst hv1
  refine VO.as ?_
  refine VO.k3 0 1 4 ?_
  refine VC.ret ?_
  refine ⟨_, _, res_run (rs := [.tmp 4]) rfl (.tmp rfl .nil), fun W_ hI => out_of (l := []) hI [] rfl rfl (mle_refl _) (fun hS_ => ?_)⟩
  dsimp only [packV]
  all_goals (first | rfl | (simp [*]; done))
theorem cSame_ok (W : World) {v0 : List Value} {d0 : DCommit} (h0 : Rd TCommit (wm W) v0 d0) {v1 : List Value} {d1 : DCommit} (h1 : Rd TCommit (wm W) v1 d1) : CallR Try.prog 62 [.agg v0.toArray, .agg v1.toArray] W (mnil) (fun v m' => v = .bool (decide (d0 = d1))) := by
  obtain ⟨p0_A2, p0_c2, rfl, p0_0, p0_1, p0_2⟩ := open_Commit (x0 := d0.1) (x1 := d0.2.1) (x2 := d0.2.2) h0
  simp only [inK] at p0_0
  simp only [inK] at p0_1
  have p0_r2 := Rd.room p0_2
  obtain ⟨p1_A2, p1_c2, rfl, p1_0, p1_1, p1_2⟩ := open_Commit (x0 := d1.1) (x1 := d1.2.1) (x2 := d1.2.2) h1
  simp only [inK] at p1_0
  simp only [inK] at p1_1
  have p1_r2 := Rd.room p1_2
  refine CallR.ofA (n := 24) Try.func62 rfl rfl rfl ?_
  refine VC.rs ?_
  refine VO.box (cs := [Value.int .i64 (d0.1), Value.int .i64 (d0.2.1), Value.slice p0_A2 (d0.2.2.length) (p0_c2)]) 102 rfl rfl rfl (fun g1 => ?_)
  refine VO.box (cs := [Value.int .i64 (d1.1), Value.int .i64 (d1.2.1), Value.slice p1_A2 (d1.2.2.length) (p1_c2)]) 104 rfl rfl rfl (fun g3 => ?_)
  refine VO.as ?_
  refine VO.k5 0 1 2 3 4 ?_
  refine VC.rs ?_
  refine VO.y rfl (.fa rfl tst52 rfl) ?_
  refine VO.y rfl (.ld1 102 rfl tk3 rfl (cellsAt_one rfl rfl)) ?_
  refine VO.y rfl (.fa rfl tst52 rfl) ?_
  refine VO.y rfl (.ld1 104 rfl tk3 rfl (cellsAt_one rfl rfl)) ?_
  refine VO.y rfl (.eql rfl rfl) ?_
  refine VO.mv ?_
  refine VO.dec (t := 10) rfl (fun hc5 => ?_) (fun hc5 => ?_)
  · -- T
    refine VO.gy rfl ⟨_, rfl, rfl⟩ (.fa rfl tst52 rfl) ?_
    refine VO.gy rfl ⟨_, rfl, rfl⟩ (.ld1 102 rfl tk3 rfl (cellsAt_one rfl rfl)) ?_
    refine VO.gy rfl ⟨_, rfl, rfl⟩ (.fa rfl tst52 rfl) ?_
    refine VO.gy rfl ⟨_, rfl, rfl⟩ (.ld1 104 rfl tk3 rfl (cellsAt_one rfl rfl)) ?_
    refine VO.gy rfl ⟨_, rfl, rfl⟩ (.eql rfl rfl) ?_
    refine VO.y rfl (.pT rfl rfl) ?_
    refine VO.mv ?_
    refine VO.dec (t := 17) rfl (fun hc6 => ?_) (fun hc6 => ?_)
    · -- TT
      refine VO.gy rfl ⟨_, rfl, rfl⟩ (.fa rfl tst52 rfl) ?_
      refine VO.gy rfl ⟨_, rfl, rfl⟩ (.ld1 102 rfl tk22 rfl (cellsAt_one rfl rfl)) ?_
      refine VO.gy rfl ⟨_, rfl, rfl⟩ (.fa rfl tst52 rfl) ?_
      refine VO.gy rfl ⟨_, rfl, rfl⟩ (.ld1 104 rfl tk22 rfl (cellsAt_one rfl rfl)) ?_
      refine VO.gcallN 107 rfl ⟨_, rfl, rfl⟩ fnOk41 rfl (fun W hW => bSame_ok W (Rd.mono p0_2 (hW.at (i := 0) rfl)) (Rd.mono p1_2 (hW.at (i := 0) rfl))) (fun v7 m7 hv7 => ?_)
      subst hv7
      refine VO.y rfl (.pT rfl rfl) ?_
      refine VO.as ?_
      refine VO.k5 0 1 2 3 4 ?_
      refine VC.ret ?_
      refine ⟨_, _, res_run (rs := [.tmp 4]) rfl (.tmp rfl .nil), fun W_ hI => out_of (l := []) hI [] rfl rfl (mle_refl _) (fun hS_ => ?_)⟩
      dsimp only [packV]
      all_goals (first | rfl | (first | exact congrArg Value.bool (decide_eq_false (fun e => by subst e; exact absurd rfl ‹¬ _ = _›)).symm | exact congrArg Value.bool (decide_eq_decide.2 ⟨fun h => commit_ext ‹_› ‹_› h, fun e => by rw [e]⟩)))
    · -- TF
      refine VO.gN ?_
      refine VO.gN ?_
      refine VO.gN ?_
      refine VO.gN ?_
      refine VO.gN ?_
      refine VO.y rfl (.pF rfl rfl) ?_
      refine VO.as ?_
      refine VO.k5 0 1 2 3 4 ?_
      refine VC.ret ?_
      refine ⟨_, _, res_run (rs := [.tmp 4]) rfl (.tmp rfl .nil), fun W_ hI => out_of (l := []) hI [] rfl rfl (mle_refl _) (fun hS_ => ?_)⟩
      dsimp only [packV]
      all_goals (first | rfl | (first | exact congrArg Value.bool (decide_eq_false (fun e => by subst e; exact absurd rfl ‹¬ _ = _›)).symm | exact congrArg Value.bool (decide_eq_decide.2 ⟨fun h => commit_ext ‹_› ‹_› h, fun e => by rw [e]⟩)))
  · -- F
    refine VO.gN ?_
    refine VO.gN ?_
    refine VO.gN ?_
    refine VO.gN ?_
    refine VO.gN ?_
    refine VO.y rfl (.pF rfl rfl) ?_
    refine VO.mv ?_
    refine VO.gN ?_
    refine VO.gN ?_
    refine VO.gN ?_
    refine VO.gN ?_
    refine VO.gN ?_
    refine VO.y rfl (.pF rfl rfl) ?_
    refine VO.as ?_
    refine VO.k5 0 1 2 3 4 ?_
    refine VC.ret ?_
    refine ⟨_, _, res_run (rs := [.tmp 4]) rfl (.tmp rfl .nil), fun W_ hI => out_of (l := []) hI [] rfl rfl (mle_refl _) (fun hS_ => ?_)⟩
    dsimp only [packV]
    all_goals (first | rfl | (first | exact congrArg Value.bool (decide_eq_false (fun e => by subst e; exact absurd rfl ‹¬ _ = _›)).symm | exact congrArg Value.bool (decide_eq_decide.2 ⟨fun h => commit_ext ‹_› ‹_› h, fun e => by rw [e]⟩)))
end
section
set_option linter.unusedVariables false
theorem vgo_back : ∀ {b : Bytes} {i x y n : Nat}, x < 2 ^ (7 * i) → i ≤ 9 → vgo i x b = some (y, n) → ∃ v, y = x + v * 2 ^ (7 * i) ∧ b = venc v ++ b.drop (n - i) ∧ n = i + (venc v).length ∧ (1 ≤ v ∨ i = 0)
  | [], _, _, _, _, _, _, h => by cases h
  | c :: r, i, x, y, n, hx, hi, h => by
    unfold vgo at h
    split at h
    · cases h
    · rename_i h0
      obtain ⟨t1, t2, t3⟩ := top_add hx hi h0
      have hc := c.toNat_lt
      split at h
      · rename_i h1
        obtain ⟨v, e1, e2, e3, e4⟩ := vgo_back (t3 (by omega)) (by omega) h
        have hv : 1 ≤ v := by omega
        have hd : venc (c.toNat % 128 + 128 * v) = c :: venc v := by
          rw [venc, dif_neg (by omega), show (c.toNat % 128 + 128 * v) / 128 = v by omega, show (c.toNat % 128 + 128 * v) % 128 + 128 = c.toNat by omega]
          simp
        refine ⟨c.toNat % 128 + 128 * v, ?_, ?_, ?_, .inl (by omega)⟩
        · rw [e1, pow_next, Nat.add_mul, Nat.add_assoc, Nat.mul_left_comm, Nat.mul_assoc]
        · rw [hd, show n - i = (n - (i + 1)) + 1 by omega, List.drop_succ_cons, List.cons_append, ← e2]
        · rw [hd, e3, List.length_cons]; omega
      · rename_i h1
        split at h
        · cases h
        · rename_i h2
          simp only [Option.some.injEq, Prod.mk.injEq] at h
          obtain ⟨rfl, rfl⟩ := h
          have hd : venc c.toNat = [c] := by rw [venc, dif_pos (by omega)]; simp
          have hm : c.toNat % 128 = c.toNat := Nat.mod_eq_of_lt (by omega)
          refine ⟨c.toNat, by rw [hm], by rw [hd, show i + 1 - i = 1 by omega]; rfl, by rw [hd]; rfl, by omega⟩
theorem vread_back {b : Bytes} {x n : Nat} (h : vread b = some (x, n)) : b = venc x ++ b.drop n ∧ n = (venc x).length := by
  obtain ⟨v, e1, e2, e3, _⟩ := vgo_back (by decide) (by decide) h
  have : x = v := by simpa using e1
  subst this
  exact ⟨by simpa using e2, by omega⟩
theorem vgo_there : ∀ (v : Nat) {i x : Nat} (r : Bytes), x < 2 ^ (7 * i) → i ≤ 9 → x + v * 2 ^ (7 * i) < 18446744073709551616 → (1 ≤ v ∨ i = 0) → vgo i x (venc v ++ r) = some (x + v * 2 ^ (7 * i), i + (venc v).length) := by
  intro v
  induction v using Nat.strongRecOn with
  | ind v ih =>
    intro i x r hx hi hlt h1
    have h9 : i = 9 → v ≤ 1 := by
      intro h
      subst h
      have : (2 : Nat) ^ (7 * 9) = 9223372036854775808 := by decide
      rw [this] at hlt
      omega
    by_cases hv : v < 128
    · rw [venc, dif_pos hv]
      have ec : (UInt8.ofNat v).toNat = v := by simp; omega
      have h0 : ¬ (i = 9 ∧ (UInt8.ofNat v).toNat > 1) := by rw [ec]; omega
      obtain ⟨t1, t2, t3⟩ := top_add hx hi h0
      show (if _ then _ else _) = _
      rw [if_neg h0, if_neg (by rw [ec]; omega), if_neg (by rw [ec]; omega), ec, Nat.mod_eq_of_lt hv]
      rfl
    · rw [venc, dif_neg hv]
      have ec : (UInt8.ofNat (v % 128 + 128)).toNat = v % 128 + 128 := by simp; omega
      have h0 : ¬ (i = 9 ∧ (UInt8.ofNat (v % 128 + 128)).toNat > 1) := by rw [ec]; omega
      obtain ⟨t1, t2, t3⟩ := top_add hx hi h0
      have e : x + (v % 128 + 128) % 128 * 2 ^ (7 * i) + v / 128 * 2 ^ (7 * (i + 1)) = x + v * 2 ^ (7 * i) := by
        rw [pow_next, ← Nat.mul_assoc, Nat.add_assoc, ← Nat.add_mul]
        congr 2
        omega
      show (if _ then _ else _) = _
      rw [if_neg h0, if_pos (by rw [ec]; omega)]
      show vgo _ _ (venc (v / 128) ++ r) = _
      rw [ih (v / 128) (by omega) r (t3 (by omega)) (by omega) (by rw [ec, e]; exact hlt) (by omega), ec, e, List.length_cons]
      congr 2
      omega
theorem vread_there {x : Nat} (h : x < 18446744073709551616) (r : Bytes) : vread (venc x ++ r) = some (x, (venc x).length) := by
  have := vgo_there x (i := 0) (x := 0) r (by decide) (by decide) (by simpa using h) (.inr rfl)
  rw [Nat.mul_zero, Nat.pow_zero, Nat.mul_one, Nat.zero_add, Nat.zero_add] at this
  exact this
theorem drop_past {B e r : Bytes} {a : Nat} (h : B.drop a = e ++ r) : B.drop (a + e.length) = r := by
  rw [← List.drop_drop, h]; simp
theorem drop_len {B e r : Bytes} {a : Nat} (h : B.drop a = e ++ r) : B.length - a = e.length + r.length := by
  rw [← List.length_drop, h, List.length_append]
theorem shared_take : ∀ (a b : Bytes), a.take (shared a b) = b.take (shared a b)
  | [], b => by rw [shared_nil_left]; rfl
  | a, [] => by rw [shared_nil_right]; rfl
  | x :: a, y :: b => by
    unfold shared
    split
    · rename_i h; rw [List.take_succ_cons, List.take_succ_cons, h, shared_take a b]
    · rfl
theorem drop_le {B e r : Bytes} {a : Nat} (h : B.drop a = e ++ r) (ha : a ≤ B.length) : a + e.length ≤ B.length := by have := drop_len h; omega
section
variable {B last : Bytes} {m : Int} {s e : RS} {x : Int} {t : Bytes}
theorem num_back (hs : rOk B s) (hm : m ≤ 9223372036854775807) (h : rNum B m s = (x, e)) (he : e.2 = false) : s.2 = false ∧ 0 ≤ x ∧ (x ≤ m) ∧ rOk B e ∧ B.drop s.1.toNat = venc x.toNat ++ B.drop e.1.toNat := by
  have hok := rNum_ok (m := m) hs hm
  rw [h] at hok
  by_cases h0 : s.2 = true
  · rw [rNum_bad h0] at h
    cases h
    rw [h0] at he; cases he
  · have h0 : s.2 = false := by simpa using h0
    by_cases h1 : sE (B.drop s.1.toNat) m = 0
    · rw [rNum_some h0 h1] at h
      have hb := s_bounds (B.drop s.1.toNat) m hm
      cases h
      unfold sE sX sN vsmall at *
      cases hv : vread (B.drop s.1.toNat) with
      | none => rw [hv] at h1; cases h1
      | some p =>
        obtain ⟨y, n⟩ := p
        rw [hv] at h1 hb hok
        dsimp only at h1 hb hok ⊢
        by_cases hy : (y : Int) ≤ m
        · rw [if_pos hy] at hok ⊢
          dsimp only at hok ⊢
          obtain ⟨e1, e2⟩ := vread_back hv
          refine ⟨h0, by omega, hy, hok.1, ?_⟩
          rw [show (s.1 + (n : Int)).toNat = s.1.toNat + n by have := hs.1; omega, ← List.drop_drop]
          exact e1
        · rw [if_neg hy] at h1; cases h1
    · rw [rNum_none h0 h1] at h
      cases h
      cases he
theorem num_there {a : Nat} {x : Nat} {r : Bytes} (h : B.drop a = venc x ++ r) (hx : (x : Int) ≤ m) (hm : m ≤ 9223372036854775807) : rNum B m ((a : Int), false) = ((x : Int), (((a + (venc x).length : Nat) : Int), false)) := by
  have hv := vread_there (x := x) (by omega) r
  rw [← h] at hv
  have hs : vsmall (B.drop a) m = some (x, (venc x).length) := by unfold vsmall; rw [hv]; exact if_pos hx
  have h1 : sE (B.drop a) m = 0 := by unfold sE; rw [hs]
  rw [rNum_some rfl (by simpa using h1)]
  unfold sX sN
  simp only [Int.toNat_natCast]
  rw [hs]
  simp
theorem bytes_back {n : Int} (hs : rOk B s) (hn : 0 ≤ n) (h : rBytes B n s = (t, e)) (he : e.2 = false) : s.2 = false ∧ (t.length : Int) = n ∧ rOk B e ∧ B.drop s.1.toNat = t ++ B.drop e.1.toNat := by
  obtain ⟨q1, q2⟩ := hs
  by_cases hb : s.2 = true ∨ (B.length : Int) - s.1 < n
  · rw [rBytes_bad hb] at h
    cases h
    cases he
  · have h0 : s.2 = false := by
      cases hc : s.2 with
      | false => rfl
      | true => exact absurd (.inl hc) hb
    rw [rBytes_good h0 (fun hq => hb (.inr hq))] at h
    have hlt : ¬ (B.length : Int) - s.1 < n := fun hq => hb (.inr hq)
    cases h
    refine ⟨h0, by simp only [List.length_take, List.length_drop]; omega, ⟨by simp only; omega, by simp only; omega⟩, ?_⟩
    rw [show (s.1 + n).toNat = s.1.toNat + n.toNat by omega, ← List.drop_drop, List.take_append_drop]
theorem bytes_there {a : Nat} {r : Bytes} (h : B.drop a = t ++ r) (ha : a ≤ B.length) : rBytes B t.length ((a : Int), false) = (t, (((a + t.length : Nat) : Int), false)) := by
  have hl := drop_len h
  rw [rBytes_good rfl (by simp only; omega)]
  simp only [Int.toNat_natCast]
  rw [h]; simp
theorem text_back (hs : rOk B s) (hm : m ≤ 9223372036854775807) (h : rText B m s = (t, e)) (he : e.2 = false) : s.2 = false ∧ (t.length : Int) ≤ m ∧ rOk B e ∧ B.drop s.1.toNat = venc t.length ++ (t ++ B.drop e.1.toNat) := by
  unfold rText at h
  have hk := rNum_ok (m := m) hs hm
  generalize hn : rNum B m s = p at *
  obtain ⟨x, s1⟩ := p
  dsimp only at h hk
  obtain ⟨h1, h2, h3, h4⟩ := bytes_back hk.1 hk.2.1 h he
  obtain ⟨k1, k2, k3, k4, k5⟩ := num_back hs hm hn h1
  refine ⟨k1, by omega, h3, ?_⟩
  rw [k5, h4, show x.toNat = t.length by omega]
theorem text_there {a : Nat} {r : Bytes} (h : B.drop a = venc t.length ++ (t ++ r)) (ha : a ≤ B.length) (hx : (t.length : Int) ≤ m) (hm : m ≤ 9223372036854775807) : rText B m ((a : Int), false) = (t, (((a + ((venc t.length).length + t.length) : Nat) : Int), false)) := by
  unfold rText
  have hl := drop_len h
  rw [num_there h hx hm]
  dsimp only
  rw [bytes_there (drop_past h) (by omega), Nat.add_assoc]
theorem op_back {o : DOp} (hs : rOk B s) (hl : last.length ≤ 9223372036854775000) (h : rOp B last s = (o, e)) (he : e.2 = false) : s.2 = false ∧ rOk B e ∧ B.drop s.1.toNat = encOp last o ++ B.drop e.1.toNat := by
  unfold rOp at h
  have a1 := rNum_ok (m := 1) hs (by omega)
  generalize ha : rNum B 1 s = a at *
  obtain ⟨pa, sa⟩ := a
  dsimp only at h a1
  have b1 := rNum_ok (m := (last.length : Int)) a1.1 (by omega)
  generalize hb : rNum B last.length sa = b at *
  obtain ⟨pb, sb⟩ := b
  dsimp only at h b1
  have t1 := rText_ok (m := 16) b1.1 (by omega) (by omega)
  generalize ht : rText B 16 sb = tt at *
  obtain ⟨pt, st⟩ := tt
  dsimp only at h t1
  have key : ∀ (st' : RS), st' = (st.1, st.2 || decide (¬ (shared last (last.take pb.toNat ++ pt) : Int) = pb)) → st'.2 = false → s.2 = false ∧ rOk B st' ∧ B.drop s.1.toNat = venc pa.toNat ++ (venc (shared last (last.take pb.toNat ++ pt)) ++ (venc ((last.take pb.toNat ++ pt).length - shared last (last.take pb.toNat ++ pt)) ++ ((last.take pb.toNat ++ pt).drop (shared last (last.take pb.toNat ++ pt)) ++ B.drop st'.1.toNat))) := by
    intro st' hst hf
    subst hst
    simp only [Bool.or_eq_false_iff, decide_eq_false_iff_not, Decidable.not_not] at hf
    obtain ⟨f1, f2⟩ := hf
    obtain ⟨u1, u2, u3, u4⟩ := text_back b1.1 (by omega) ht f1
    obtain ⟨v1, v2, v3, v4, v5⟩ := num_back a1.1 (by omega) hb u1
    obtain ⟨w1, w2, w3, w4, w5⟩ := num_back hs (by omega) ha v1
    refine ⟨w1, ⟨u3.1, u3.2⟩, ?_⟩
    have hlen : (last.take pb.toNat).length = pb.toNat := by simp; omega
    have hsh : shared last (last.take pb.toNat ++ pt) = pb.toNat := by omega
    rw [hsh, w5, v5, u4]
    congr 2
    rw [List.length_append, hlen, show pb.toNat + pt.length - pb.toNat = pt.length by omega]
    congr 1
    rw [List.drop_append, hlen, Nat.sub_self, List.drop_zero, List.drop_of_length_le (Nat.le_of_eq hlen)]
    simp
  by_cases hp : pa = 1
  · rw [if_pos hp] at h
    generalize hv : rText B 32 (st.1, st.2 || decide (¬ (shared last (last.take pb.toNat ++ pt) : Int) = pb)) = vv at *
    obtain ⟨pv, sv⟩ := vv
    cases h
    have hok : rOk B (st.1, st.2 || decide (¬ (shared last (last.take pb.toNat ++ pt) : Int) = pb)) := ⟨t1.1.1, t1.1.2⟩
    obtain ⟨x1, x2, x3, x4⟩ := text_back hok (by omega) hv he
    obtain ⟨y1, y2, y3⟩ := key _ rfl x1
    refine ⟨y1, x3, ?_⟩
    rw [y3, hp, x4, enc_put rfl]
    simp [venc_last]
  · rw [if_neg hp] at h
    cases h
    obtain ⟨y1, y2, y3⟩ := key _ rfl he
    refine ⟨y1, y2, ?_⟩
    rw [show pa = 0 by omega] at y3
    rw [y3, enc_del rfl]
    simp [venc_last]
theorem op_there {a : Nat} {o : DOp} {r : Bytes} (h : B.drop a = encOp last o ++ r) (ha : a ≤ B.length) (ho : opOk o) (hl : last.length ≤ 9223372036854775000) : rOp B last ((a : Int), false) = (o, (((a + (encOp last o).length : Nat) : Int), false)) := by
  obtain ⟨o1, o2, o3, o4⟩ := ho
  have hsl := shared_le last o.2.1
  have hkey : last.take (shared last o.2.1) ++ o.2.1.drop (shared last o.2.1) = o.2.1 := by rw [shared_take last o.2.1, List.take_append_drop]
  obtain ⟨p, k, v⟩ := o
  dsimp only at *
  have e16 : k.length - shared last k = (k.drop (shared last k)).length := by simp
  have hen : encOp last (p, k, v) = venc (if p = true then 1 else 0) ++ (venc (shared last k) ++ (venc (k.drop (shared last k)).length ++ (k.drop (shared last k) ++ (if p = true then venc v.length ++ v else [])))) := by
    unfold encOp
    dsimp only
    rw [← e16]
    cases p <;> simp [venc_last]
  rw [hen] at h ⊢
  have hL := drop_le h ha
  rw [List.append_assoc] at h
  have n1 := num_there (B := B) (m := 1) h (by split <;> omega) (by omega)
  have h2 := drop_past h
  have l2 := drop_le h ha
  rw [List.append_assoc] at h2
  have n2 := num_there (B := B) (m := last.length) h2 (by omega) (by omega)
  have h3 := drop_past h2
  have l3 := drop_le h2 l2
  rw [List.append_assoc, List.append_assoc] at h3
  have n3 := text_there (B := B) (m := 16) h3 l3 (by simp only [List.length_drop]; omega) (by omega)
  have h4 := drop_past (drop_past h3)
  have l4 := drop_le (drop_past h3) (drop_le h3 l3)
  unfold rOp
  dsimp only
  rw [n1]
  dsimp only
  rw [n2]
  dsimp only
  rw [n3]
  dsimp only
  rw [Int.toNat_natCast, hkey]
  have eb : (false || decide (¬ (shared last k : Int) = (shared last k : Int))) = false := by simp
  rw [eb]
  cases p with
  | true =>
    simp only [if_true] at h4 l4 ⊢
    rw [if_pos (by rfl)]
    rw [List.append_assoc] at h4
    have n4 := text_there (B := B) (m := 32) h4 l4 (by omega) (by omega)
    rw [Nat.add_assoc] at n4
    rw [n4]
    simp only [List.length_append, Nat.add_assoc]
  | false =>
    simp only [Bool.false_eq_true, if_false]
    rw [if_neg (by decide)]
    have : v = [] := by simpa using o4
    subst this
    simp only [List.length_append, List.length_nil, Nat.add_assoc, Nat.add_zero]
end
theorem pOps_back {B : Bytes} : ∀ (n : Nat) {last : Bytes} {s e : RS} {l : List DOp}, rOk B s → last.length + 16 * n ≤ 1000000 → pOps B n last s = (l, e) → e.2 = false → s.2 = false ∧ rOk B e ∧ B.drop s.1.toNat = encOps last l ++ B.drop e.1.toNat ∧ l.length = n
  | 0, last, s, e, l, hs, hl, h, he => by
    cases h
    exact ⟨he, hs, rfl, rfl⟩
  | n + 1, last, s, e, l, hs, hl, h, he => by
    unfold pOps at h
    by_cases h0 : s.2 = true
    · rw [if_pos h0] at h
      cases h
      rw [h0] at he; cases he
    · rw [if_neg h0] at h
      have hk := rOp_ok (last := last) hs (by omega)
      generalize ho : rOp B last s = p at *
      obtain ⟨o, s1⟩ := p
      dsimp only at h hk
      generalize hr : pOps B n o.2.1 s1 = q at *
      obtain ⟨l1, e1⟩ := q
      cases h
      obtain ⟨a1, a2, a3, a4⟩ := pOps_back n hk.1 (by omega) hr he
      obtain ⟨b1, b2, b3⟩ := op_back hs (by omega) ho a1
      refine ⟨b1, a2, ?_, by simp [a4]⟩
      rw [b3, a3, encOps, List.append_assoc]
theorem pOps_there {B : Bytes} : ∀ {l : List DOp} {last : Bytes} {a : Nat} {r : Bytes}, B.drop a = encOps last l ++ r → a ≤ B.length → (∀ o ∈ l, opOk o) → last.length ≤ 16 → pOps B l.length last ((a : Int), false) = (l, (((a + (encOps last l).length : Nat) : Int), false))
  | [], last, a, r, h, ha, ho, hl => rfl
  | o :: l, last, a, r, h, ha, ho, hl => by
    rw [encOps, List.append_assoc] at h
    have h1 := op_there h ha (ho o (.head _)) (by omega)
    have h2 := pOps_there (drop_past h) (drop_le h ha) (fun o h => ho o (.tail _ h)) (ho o (.head _)).2.1
    rw [List.length_cons]
    unfold pOps
    rw [if_neg (by simp), h1]
    dsimp only
    rw [h2, encOps, List.length_append, Nat.add_assoc]
theorem bRead_back {B : Bytes} {l : List DOp} {n : Int} (h : bRead B = (l, n, 0)) : batchCheck l = 0 ∧ 0 ≤ n ∧ n ≤ B.length ∧ B = batchEnc l ++ B.drop n.toNat := by
  have h0 : rOk B (0, false) := ⟨Int.le_refl _, by simp⟩
  have hk := rNum_ok (m := 8) h0 (by omega)
  unfold bRead at h
  generalize hn : rNum B 8 (0, false) = p at *
  obtain ⟨k, s⟩ := p
  dsimp only at h hk
  generalize hr : pOps B k.toNat [] s = q at *
  obtain ⟨l1, e⟩ := q
  dsimp only at h
  by_cases hb : e.2 = true ∨ ¬ batchCheck l1 = 0
  · rw [if_pos hb] at h
    simp at h
  · rw [if_neg hb] at h
    have he : e.2 = false := by
      cases hc : e.2 with
      | false => rfl
      | true => exact absurd (.inl hc) hb
    have hc : batchCheck l1 = 0 := Decidable.byContradiction fun hq => hb (.inr hq)
    cases h
    obtain ⟨a1, a2, a3, a4⟩ := pOps_back _ hk.1 (by have := hk.2.2.2.1 (by omega); simp; omega) hr he
    obtain ⟨b1, b2, b3, b4, b5⟩ := num_back h0 (by omega) hn a1
    refine ⟨hc, a2.1, a2.2, ?_⟩
    have e0 : B = B.drop ((0 : Int), false).1.toNat := rfl
    rw [batchEnc, a4, List.append_assoc, ← a3, ← b5]; rfl
theorem bRead_there {l : List DOp} (h : batchCheck l = 0) (r : Bytes) : bRead (batchEnc l ++ r) = (l, ((batchEnc l).length : Int), 0) := by
  have hl := batch_len h
  have h1 : (batchEnc l ++ r).drop 0 = venc l.length ++ (encOps [] l ++ r) := by rw [batchEnc, List.append_assoc]; rfl
  have n1 := num_there (m := 8) h1 (by omega) (by omega)
  have n2 := pOps_there (drop_past h1) (drop_le h1 (Nat.zero_le _)) (fun o ho => batchCheck_mem h ho) (Nat.zero_le _)
  unfold bRead
  rw [show ((0 : Int), false) = (((0 : Nat) : Int), false) from rfl, n1]
  dsimp only
  rw [Int.toNat_natCast, n2]
  dsimp only
  rw [if_neg (by rw [h]; decide)]
  simp [batchEnc]
theorem bRead_cases (B : Bytes) : (bRead B).2.2 = 0 ∨ bRead B = ([], 0, 5) := by
  unfold bRead
  dsimp only
  split
  · exact .inr rfl
  · exact .inl rfl
theorem bRead_fits (B : Bytes) : (bRead B).1.length ≤ 8 ∧ 0 ≤ (bRead B).2.1 ∧ (bRead B).2.1 ≤ B.length ∧ ((bRead B).2.2 = 0 ∨ (bRead B).2.2 = 5) := by
  rcases bRead_cases B with h0 | h0
  · generalize hp : bRead B = p at *
    obtain ⟨m, n, f⟩ := p
    dsimp only at h0
    subst h0
    obtain ⟨a1, a2, a3, a4⟩ := bRead_back hp
    exact ⟨(batch_len a1).2, a2, a3, .inl rfl⟩
  · rw [h0]; exact ⟨by decide, by decide, by simp, .inr rfl⟩
theorem encOps_len : ∀ {l : List DOp} {last : Bytes}, (∀ o ∈ l, opOk o) → (encOps last l).length ≤ 79 * l.length
  | [], _, _ => by simp [encOps]
  | o :: l, last, h => by
    have h1 := encOp_len (last := last) (h o (.head _))
    have h2 := encOps_len (l := l) (last := o.2.1) (fun o h' => h o (.tail _ h'))
    rw [encOps, List.length_append, List.length_cons]; omega
theorem batchEnc_len {l : List DOp} (h : batchCheck l = 0) : (batchEnc l).length ≤ 642 := by
  have h1 := encOps_len (last := []) (fun o ho => batchCheck_mem h ho)
  have h2 := (batch_len h).2
  have h3 := venc_len (x := l.length) (by omega)
  unfold batchEnc; rw [List.length_append]; omega
theorem bAppend_len (b : Bytes) (l : List DOp) : (bAppend b l).1.length ≤ b.length + 642 := by
  unfold bAppend
  split
  · rename_i h; have := batchEnc_len h; simp; omega
  · simp
end
section
set_option linter.unusedVariables false
set_option linter.unusedSimpArgs false
set_option maxRecDepth 4000
theorem fnOk94 : fnOk Try.prog 94 = true := by kernel_rfl
theorem fnOk97 : fnOk Try.prog 97 = true := by kernel_rfl
theorem tz107 : tz Try.prog 107 = some [.slice none 0 0, .int .i64 0, .bool false] := by kernel_rfl
theorem fin0_bRead_ok {P : Prop} (h : P := by have hf := ops_end hp (by first | exact .inl (by omega) | exact .inr (by assumption)); first | (rw [bRead_bad (Prod.ext hf.1 hf.2) (by first | exact .inl (by assumption) | exact .inr (by assumption))] <;> rfl) | (rw [bRead_good (Prod.ext hf.1 hf.2) (by assumption) (by omega)] <;> rfl)) : P := h
theorem bRead_ok (W : World) {v0 : Value} {d0 : List UInt8} (h0 : Rd (.sl .byte) (wm W) [v0] d0) : CallR Try.prog 24 [v0] W (mnil) (fun v m' => ∃ (s0 : Value), v = .tuple #[s0, .int .i64 ((bRead d0).2.1), .int .i64 ((bRead d0).2.2)] ∧ Ow (.sl TOp) m' [s0] ((bRead d0).1)) := by
  obtain ⟨A0, c0, rfl, l0, k0⟩ := h0.slice
  simp only [maxLen] at k0
  refine CallR.ofA (n := 48) Try.func24 rfl rfl rfl ?_
  refine VC.rs ?_
  refine VO.as ?_
  refine VO.as ?_
  refine VO.as ?_
  refine VO.k4 0 2 3 4 ?_
  refine VC.rs ?_
  refine VO.mv ?_
  refine VO.y rfl (.bst (cs := [Value.slice A0 (d0.length) (c0), Value.int .i64 (0), Value.bool false]) rfl tst107 tz107 rfl) ?_
  refine VO.box (cs := [Value.slice A0 (d0.length) (c0), Value.int .i64 (0), Value.bool false]) 102 rfl rfl rfl (fun g1 => ?_)
  refine VO.as ?_
  refine VO.k5 0 2 3 4 5 ?_
  refine VC.rs ?_
  refine VO.as ?_
  refine VO.keep [102, 0] [(102, mone g1 (.cells [Value.slice A0 (d0.length) (c0), Value.int .i64 (0), Value.bool false].toArray 107 (0, 0))), (0, wm W)] (by kernel_rfl) ?_
  refine VO.k6 0 2 3 4 5 6 ?_
  refine VC.seq ?_
  refine VC.rs ?_
  refine VO.mv ?_
  refine VO.call 102 rfl fnOk93 rfl rfl (fun W hW => bNum_ok W (d0 := (d0, 0, false)) (hW.at (i := 102) rfl) (Rd.mono h0 (hW.out (i := 102) (j := 0) rfl rfl)) bdk 8 bdk (by first | assumption | exact ⟨by omega, by omega⟩ | exact ⟨by (simp; done), by (simp; done)⟩)) (fun v3 m3 hv3 => ?_)
  try dsimp only at hv3
  obtain ⟨rfl, rfl, w3_0_1⟩ := hv3
  have hfa4 := (rNum_ok (B := d0) (m := 8) (s := (0, false)) (by first | assumption | exact ⟨by omega, by omega⟩ | exact ⟨by (simp; done), by (simp; done)⟩) (by omega)).1
  have hfa5 := (rNum_ok (B := d0) (m := 8) (s := (0, false)) (by first | assumption | exact ⟨by omega, by omega⟩ | exact ⟨by (simp; done), by (simp; done)⟩) (by omega)).1.1
  have hfa6 := (rNum_ok (B := d0) (m := 8) (s := (0, false)) (by first | assumption | exact ⟨by omega, by omega⟩ | exact ⟨by (simp; done), by (simp; done)⟩) (by omega)).1.2
  have hfa7 := (rNum_ok (B := d0) (m := 8) (s := (0, false)) (by first | assumption | exact ⟨by omega, by omega⟩ | exact ⟨by (simp; done), by (simp; done)⟩) (by omega)).2
  simp only [inK] at w3_0_1
  refine VO.as ?_
  refine VO.k7 0 2 3 4 5 6 7 ?_
  refine VC.block ?_
  refine VC.inv ((108, mnil) :: _) (fun _ h => h.nilc 108) ?_
  refine VC.loop (G := Int × (List UInt8) × (List DOp) × (Option Addr) × Nat × Mem × Int × Bool) (fun g => [(2, Value.slice (g.2.2.2.1) ((g.2.2.1).length) ((g.2.2.2.2.1))), (6, str ((g.2.1))), (7, Value.int .i64 ((g.1))), (0, Value.slice A0 (d0.length) (c0)), (3, Value.int .i64 (0)), (4, Value.int .i64 (0)), (5, Value.pointer (some ⟨g1, 0, none⟩))]) (fun g => [(108, (g.2.2.2.2.2.1)), (102, mone g1 (.cells [Value.slice A0 (d0.length) (c0), Value.int .i64 ((g.2.2.2.2.2.2.1)), Value.bool (g.2.2.2.2.2.2.2)].toArray 107 (0, 0))), (0, wm W)]) (fun g => (pOps d0 (rNum d0 8 (0, false)).1.toNat [] (rNum d0 8 (0, false)).2 = ((g.2.2.1) ++ (pOps d0 (g.1).toNat (g.2.1) ((g.2.2.2.2.2.2.1), (g.2.2.2.2.2.2.2))).1, (pOps d0 (g.1).toNat (g.2.1) ((g.2.2.2.2.2.2.1), (g.2.2.2.2.2.2.2))).2)) ∧ (rOk d0 ((g.2.2.2.2.2.2.1), (g.2.2.2.2.2.2.2))) ∧ ((g.1) ≤ 8) ∧ ((g.2.2.1).length + (g.1).toNat ≤ 8) ∧ ((g.2.1).length + 16 * (g.1).toNat ≤ 128) ∧ (OwnL TOp (g.2.2.2.2.2.1) mnil (.slice (g.2.2.2.1) (g.2.2.1).length (g.2.2.2.2.1)) (g.2.2.1))) (fun g => (g.1).toNat) ((rNum d0 8 (0, false)).1, [], [], none, 0, mnil, (rNum d0 8 (0, false)).2.1, (rNum d0 8 (0, false)).2.2) (⟨by rfl, by assumption, by omega, by (simp; omega), by (simp; omega), (OwnL.nil TOp mnil mnil)⟩) ⟨⟨rfl, rfl, rfl, rfl, rfl, rfl, rfl, trivial⟩, fun _ h => h.sub [108, 102, 0]⟩ ?_
  rintro ⟨k, last, l, l_A, l_c, l_m, at_, bad⟩ ⟨hp, hok, hk, hlen, hla, h_l⟩
  replace hp : pOps d0 (rNum d0 8 (0, false)).1.toNat [] (rNum d0 8 (0, false)).2 = (l ++ (pOps d0 k.toNat last (at_, bad)).1, (pOps d0 k.toNat last (at_, bad)).2) := hp
  replace hok : rOk d0 (at_, bad) := hok
  replace hk : k ≤ 8 := hk
  replace hlen : l.length + k.toNat ≤ 8 := hlen
  replace hla : last.length + 16 * k.toNat ≤ 128 := hla
  replace h_l : OwnL TOp l_m mnil (.slice l_A l.length l_c) l := h_l
  show VC _ _ _ _ _ [(2, Value.slice l_A (l.length) (l_c)), (6, str (last)), (7, Value.int .i64 (k)), (0, Value.slice A0 (d0.length) (c0)), (3, Value.int .i64 (0)), (4, Value.int .i64 (0)), (5, Value.pointer (some ⟨g1, 0, none⟩))] [(108, l_m), (102, mone g1 (.cells [Value.slice A0 (d0.length) (c0), Value.int .i64 (at_), Value.bool bad].toArray 107 (0, 0))), (0, wm W)]
  have l_l : l.length ≤ l_c := by obtain ⟨_, _, he, hl, _⟩ := h_l.slice; simp only [Value.slice.injEq] at he; omega
  have k_l : l_c ≤ 9223372036854775807 := by obtain ⟨_, _, he, _, hl⟩ := h_l.slice; simp only [Value.slice.injEq, maxLen] at he hl; omega
  obtain ⟨hoka, hokb⟩ := (show 0 ≤ at_ ∧ at_ ≤ d0.length from hok)
  refine VC.seq ?_
  refine VC.rs ?_
  refine VO.mv ?_
  refine VO.y rfl (.gtr rfl rfl) ?_
  refine VO.mv ?_
  refine VO.dec (t := 16) rfl (fun hc9 => ?_) (fun hc9 => ?_)
  · -- T
    refine VO.gy rfl ⟨_, rfl, rfl⟩ (.mv rfl) ?_
    refine VO.gy rfl ⟨_, rfl, rfl⟩ (.nilp rfl) ?_
    refine VO.gy rfl ⟨_, rfl, rfl⟩ (.fa rfl tst107 rfl) ?_
    refine VO.gy rfl ⟨_, rfl, rfl⟩ (.ld1 102 rfl tk4 rfl (cellsAt_one rfl rfl)) ?_
    refine VO.gy rfl ⟨_, rfl, rfl⟩ (.not rfl) ?_
    refine VO.y rfl (.pT rfl rfl) ?_
    refine VO.k8 0 2 3 4 5 6 7 22 ?_
    refine VC.condBN rfl (fun hc10 => ?_) (fun hc10 => ?_)
    · -- TT
      refine VC.skip ?_
      refine outN ?_
      refine VC.seq ?_
      refine VC.block ?_
      refine VC.rs ?_
      refine VO.mv ?_
      refine VO.mv ?_
      refine VO.call 102 rfl fnOk94 rfl rfl (fun W hW => bOp_ok W (d0 := (d0, at_, bad)) (hW.at (i := 102) rfl) (Rd.mono h0 (hW.out (i := 102) (j := 0) rfl rfl)) bdk last bdm (by first | assumption | exact ⟨by omega, by omega⟩ | exact ⟨by (simp; done), by (simp; done)⟩) bd) (fun v11 m11 hv11 => ?_)
      try dsimp only at hv11
      obtain ⟨s11_0, rfl, f11_0, rfl, w11_0_1⟩ := hv11
      have hfa12 := (rOp_ok (B := d0) (last := last) (s := (at_, bad)) (by first | assumption | exact ⟨by omega, by omega⟩ | exact ⟨by (simp; done), by (simp; done)⟩) (by omega)).1
      have hfa13 := (rOp_ok (B := d0) (last := last) (s := (at_, bad)) (by first | assumption | exact ⟨by omega, by omega⟩ | exact ⟨by (simp; done), by (simp; done)⟩) (by omega)).1.1
      have hfa14 := (rOp_ok (B := d0) (last := last) (s := (at_, bad)) (by first | assumption | exact ⟨by omega, by omega⟩ | exact ⟨by (simp; done), by (simp; done)⟩) (by omega)).1.2
      have hfa15 := (rOp_ok (B := d0) (last := last) (s := (at_, bad)) (by first | assumption | exact ⟨by omega, by omega⟩ | exact ⟨by (simp; done), by (simp; done)⟩) (by omega)).2.1
      have hfa16 := (rOp_ok (B := d0) (last := last) (s := (at_, bad)) (by first | assumption | exact ⟨by omega, by omega⟩ | exact ⟨by (simp; done), by (simp; done)⟩) (by omega)).2.2
      simp only [inK] at w11_0_1
      obtain ⟨rfl, q11_0_1, q11_0_2⟩ := open_Op (x0 := ((rOp d0 last (at_, bad)).1).1) (x1 := ((rOp d0 last (at_, bad)).1).2.1) (x2 := ((rOp d0 last (at_, bad)).1).2.2) (f11_0.rd (mle_refl _))
      simp only [maxLen] at q11_0_1
      simp only [maxLen] at q11_0_2
      refine VO.alloc 118 rfl tz49 (fun g17 => ?_)
      refine VO.store (k := 3) (c' := [Value.bool (((rOp d0 last (at_, bad)).1).1), str (((rOp d0 last (at_, bad)).1).2.1), str (((rOp d0 last (at_, bad)).1).2.2)]) 118 rfl rfl (.inl tk49) rfl rfl rfl rfl rfl ?_
      refine VO.keep [118, 102, 108, 0] [(118, mone g17 (.cells [Value.bool (((rOp d0 last (at_, bad)).1).1), str (((rOp d0 last (at_, bad)).1).2.1), str (((rOp d0 last (at_, bad)).1).2.2)].toArray 49 (0, 0))), (102, mone g1 (.cells [Value.slice A0 (d0.length) (c0), Value.int .i64 ((rOp d0 last (at_, bad)).2.1), Value.bool ((rOp d0 last (at_, bad)).2.2)].toArray 107 (0, 0))), (108, l_m), (0, wm W)] (by kernel_rfl) ?_
      refine VO.k9 0 2 3 4 5 6 7 8 22 ?_
      refine VC.rs ?_
      refine VO.mv ?_
      refine VO.y rfl (.ldA 118 rfl tk49 rfl (cellsAt_one rfl rfl)) ?_
      refine VO.bsl (cs := [Value.bool (((rOp d0 last (at_, bad)).1).1), str (((rOp d0 last (at_, bad)).1).2.1), str (((rOp d0 last (at_, bad)).1).2.2)]) 120 rfl rfl tsl22 tz49 rfl rfl (fun g19 => ?_)
      obtain ⟨mo21, cs21, hM21, hA21, hC21⟩ := h_l
      refine VO.app 108 rfl rfl rfl tsl22 tz49 rfl rfl hM21 hA21 (.row 120 _ _ _ 1 1 _ _ Try.underlying22 rfl (cellsAt_one rfl rfl)) (by simp [Value.oneCell']) bdm bd (by decide) (fun v21 m21 hN21 => ?_)
      have ho21 : OwnL TOp m21 mnil v21 (l ++ [((rOp d0 last (at_, bad)).1)]) := OwnL.one hC21 hN21 (show Rd TOp _ _ ((rOp d0 last (at_, bad)).1) from (mk_Op (m := _) (((rOp d0 last (at_, bad)).1).1) (((rOp d0 last (at_, bad)).1).2.1) (((rOp d0 last (at_, bad)).1).2.2) bdm bdm))
      obtain ⟨A21, c21, rfl, l21, k21⟩ := ho21.slice
      simp only [maxLen] at k21
      refine VO.as ?_
      refine VO.k9 0 2 3 4 5 6 7 8 22 ?_
      refine VC.reg ?_
      refine VO.y rfl (.fa rfl tst49 rfl) ?_
      refine VO.y rfl (.ld1 118 rfl tk9 rfl (cellsAt_one rfl rfl)) ?_
      refine VO.as ?_
      refine VO.k9 0 2 3 4 5 6 7 8 22 ?_
      refine outBN ?_
      refine outN ?_
      refine VC.reg ?_
      refine VO.mv ?_
      refine VO.y rfl (.sub rfl rfl rfl ⟨bd, bd⟩) ?_
      refine VO.as ?_
      refine VO.keep [118, 102, 108, 0] [(118, mone g17 (.cells [Value.bool (((rOp d0 last (at_, bad)).1).1), str (((rOp d0 last (at_, bad)).1).2.1), str (((rOp d0 last (at_, bad)).1).2.2)].toArray 49 (0, 0))), (102, mone g1 (.cells [Value.slice A0 (d0.length) (c0), Value.int .i64 ((rOp d0 last (at_, bad)).2.1), Value.bool ((rOp d0 last (at_, bad)).2.2)].toArray 107 (0, 0))), (108, m21), (0, wm W)] (by kernel_rfl) ?_
      refine VO.k9 0 2 3 4 5 6 7 8 22 ?_
      exact outN ⟨⟨k - 1, ((rOp d0 last (at_, bad)).1).2.1, l ++ [((rOp d0 last (at_, bad)).1)], A21, c21, m21, (rOp d0 last (at_, bad)).2.1, (rOp d0 last (at_, bad)).2.2⟩, ⟨by exact ops_step hp (by omega) (by assumption), by assumption, by omega, by (simp only [List.length_append, List.length_cons, List.length_nil]; omega), by dsimp only; omega, ho21⟩, bd, ⟨⟨rfl, rfl, rfl, rfl, rfl, rfl, rfl, trivial⟩, fun _ h => Inv.sub h [108, 102, 0]⟩⟩
    · -- TF
      refine VC.exit ?_
      refine outE ?_
      refine outE ?_
      refine outBB ?_
      refine outN ?_
      refine VC.seq ?_
      refine VC.rs ?_
      refine VO.mv ?_
      refine VO.y rfl (.nilp rfl) ?_
      refine VO.y rfl (.fa rfl tst107 rfl) ?_
      refine VO.y rfl (.ld1 102 rfl tk4 rfl (cellsAt_one rfl rfl)) ?_
      refine VO.mv ?_
      refine VO.known (t := 38) true rfl hc10 ?_
      refine VO.gN ?_
      refine VO.gN ?_
      refine VO.gN ?_
      refine VO.y rfl (.pT rfl rfl) ?_
      refine VO.keep [108, 102, 0] [(108, l_m), (102, mone g1 (.cells [Value.slice A0 (d0.length) (c0), Value.int .i64 (at_), Value.bool bad].toArray 107 (0, 0))), (0, wm W)] (by kernel_rfl) ?_
      refine VO.k9 0 2 3 4 5 6 7 22 42 ?_
      refine VC.condT rfl ?_
      refine VC.rs ?_
      refine VO.as ?_
      refine VO.as ?_
      refine VO.as ?_
      refine VO.k9 0 2 3 4 5 6 7 22 42 ?_
      refine VC.ret ?_
      refine outR ?_
      refine ⟨_, _, res_run (rs := [.tmp 2, .tmp 3, .tmp 4]) rfl (.tmp rfl (.tmp rfl (.tmp rfl .nil))), fun W_ hI => out_of (l := []) hI [] rfl rfl (mle_refl _) (fun hS_ => ?_)⟩
      dsimp only [packV]
      have he0 : ((bRead d0).1 : Ty.Den (.sl TOp)) = [] := by first | rfl | (exact fin0_bRead_ok)
      refine ⟨Value.slice none (0) (0), ?_, ?_⟩
      rotate_left
      · rw [he0]; exact (Ow.nil _ _)
      all_goals (first | rfl | (exact fin0_bRead_ok))
  · -- F
    refine VO.gN ?_
    refine VO.gN ?_
    refine VO.gN ?_
    refine VO.gN ?_
    refine VO.gN ?_
    refine VO.y rfl (.pF rfl rfl) ?_
    refine VO.k8 0 2 3 4 5 6 7 22 ?_
    refine VC.condF rfl ?_
    refine VC.exit ?_
    refine outE ?_
    refine outE ?_
    refine outBB ?_
    refine outN ?_
    refine VC.seq ?_
    refine VC.rs ?_
    refine VO.mv ?_
    refine VO.y rfl (.nilp rfl) ?_
    refine VO.y rfl (.fa rfl tst107 rfl) ?_
    refine VO.y rfl (.ld1 102 rfl tk4 rfl (cellsAt_one rfl rfl)) ?_
    refine VO.mv ?_
    refine VO.decB (t := 38) rfl (fun hc22 => ?_) (fun hc22 => ?_)
    · -- FT
      refine VO.gN ?_
      refine VO.gN ?_
      refine VO.gN ?_
      refine VO.y rfl (.pT rfl rfl) ?_
      refine VO.keep [108, 102, 0] [(108, l_m), (102, mone g1 (.cells [Value.slice A0 (d0.length) (c0), Value.int .i64 (at_), Value.bool bad].toArray 107 (0, 0))), (0, wm W)] (by kernel_rfl) ?_
      refine VO.k9 0 2 3 4 5 6 7 22 42 ?_
      refine VC.condT rfl ?_
      refine VC.rs ?_
      refine VO.as ?_
      refine VO.as ?_
      refine VO.as ?_
      refine VO.k9 0 2 3 4 5 6 7 22 42 ?_
      refine VC.ret ?_
      refine outR ?_
      refine ⟨_, _, res_run (rs := [.tmp 2, .tmp 3, .tmp 4]) rfl (.tmp rfl (.tmp rfl (.tmp rfl .nil))), fun W_ hI => out_of (l := []) hI [] rfl rfl (mle_refl _) (fun hS_ => ?_)⟩
      dsimp only [packV]
      have he0 : ((bRead d0).1 : Ty.Den (.sl TOp)) = [] := by first | rfl | (exact fin0_bRead_ok)
      refine ⟨Value.slice none (0) (0), ?_, ?_⟩
      rotate_left
      · rw [he0]; exact (Ow.nil _ _)
      all_goals (first | rfl | (exact fin0_bRead_ok))
    · -- FF
      refine VO.gy rfl ⟨_, rfl, rfl⟩ (.mv rfl) ?_
      refine VO.gcallN 123 rfl ⟨_, rfl, rfl⟩ fnOk26 rfl (fun W hW => bCheck_ok W (OwnL.rd h_l (hW.at (i := 108) rfl) (mle_nil _))) (fun v23 m23 hv23 => ?_)
      subst hv23
      have hfa24 := batchCheck_range l
      refine VO.gy rfl ⟨_, rfl, rfl⟩ (.neq rfl rfl) ?_
      refine VO.y rfl (.pF rfl rfl) ?_
      refine VO.keep [108, 102, 0] [(108, l_m), (102, mone g1 (.cells [Value.slice A0 (d0.length) (c0), Value.int .i64 (at_), Value.bool bad].toArray 107 (0, 0))), (0, wm W)] (by kernel_rfl) ?_
      refine VO.k9 0 2 3 4 5 6 7 22 42 ?_
      refine VC.cond rfl (fun hc25 => ?_) (fun hc25 => ?_)
      · -- FFT
        refine VC.rs ?_
        refine VO.as ?_
        refine VO.as ?_
        refine VO.as ?_
        refine VO.k9 0 2 3 4 5 6 7 22 42 ?_
        refine VC.ret ?_
        refine outR ?_
        refine ⟨_, _, res_run (rs := [.tmp 2, .tmp 3, .tmp 4]) rfl (.tmp rfl (.tmp rfl (.tmp rfl .nil))), fun W_ hI => out_of (l := []) hI [] rfl rfl (mle_refl _) (fun hS_ => ?_)⟩
        dsimp only [packV]
        have he0 : ((bRead d0).1 : Ty.Den (.sl TOp)) = [] := by first | rfl | (exact fin0_bRead_ok)
        refine ⟨Value.slice none (0) (0), ?_, ?_⟩
        rotate_left
        · rw [he0]; exact (Ow.nil _ _)
        all_goals (first | rfl | (exact fin0_bRead_ok))
      · -- FFF
        refine VC.skip ?_
        refine outN ?_
        refine VC.seq ?_
        refine VC.regD _ 6 [(0, true), (1, true), (2, true), (3, true), (4, true), (5, true)] follows (by kernel_rfl) (fun _ h => h.sub [108, 102, 0]) ?_
        refine VD.y rfl rfl (.inl rfl) (.mv rfl) ?_
        refine VD.y rfl rfl (.inl rfl) (.mv rfl) ?_
        refine VD.y rfl rfl (.inl rfl) (.nilp rfl) ?_
        refine VD.y rfl rfl (.inl rfl) (.fa rfl tst107 rfl) ?_
        refine VD.y rfl rfl (.inl rfl) (.ld1 102 rfl tk3 rfl (cellsAt_one rfl rfl)) ?_
        refine VD.y rfl rfl (.inl rfl) (.as rfl) ?_
        refine VD.nil rfl ?_ rfl
        refine VO.as ?_
        refine VO.as ?_
        refine VO.k9 0 2 3 4 5 6 7 22 42 ?_
        refine outN ?_
        refine VC.ret ?_
        refine ⟨_, _, res_run (rs := [.tmp 2, .tmp 3, .tmp 4]) rfl (.tmp rfl (.tmp rfl (.tmp rfl .nil))), fun W_ hI => out_of (l := [l_m]) hI [108] rfl rfl (mle_refl _) (fun hS_ => ?_)⟩
        dsimp only [packV]
        have he0 : ((bRead d0).1 : Ty.Den (.sl TOp)) = l := by first | rfl | (exact fin0_bRead_ok)
        refine ⟨Value.slice l_A (l.length) (l_c), ?_, ?_⟩
        rotate_left
        · rw [he0]; exact (Ow.up (OwnL.ow h_l rfl) (hS_.1 _ (.head _)))
        all_goals (first | rfl | (exact fin0_bRead_ok))
theorem fin0_bAppend_ok {P : Prop} (h : P := by first | omega | (have ho_ := batchCheck_mem (by omega : batchCheck d1 = 0) (List.mem_of_getElem? ‹d1[k]? = some _›); have := ho_.2.1; have := ho_.2.2.1; have := encOp_len (last := last) ho_; have := (batch_len (by omega : batchCheck d1 = 0)).2; omega) | (have ho_ := batchCheck_mem (by omega : batchCheck d1 = 0) (List.mem_of_getElem? ‹d1[k]? = some _›); have := ho_.2.1; have := ho_.2.2.1; have := (batch_len (by omega : batchCheck d1 = 0)).2; simp only [List.length_append, List.length_nil, List.length_cons, List.length_take, List.length_drop] at *; omega)) : P := h
theorem bAppend_ok (W : World) {v0 : Value} {d0 : List UInt8} (h0 : Rd (.sl .byte) (wm W) [v0] d0) {v1 : Value} {d1 : List DOp} (h1 : Rd (.sl TOp) (wm W) [v1] d1) (e0 : d0.length ≤ 140737488352000) : CallR Try.prog 30 [v0, v1] W (mnil) (fun v m' => ∃ (s0 : Value), v = .tuple #[s0, .int .i64 ((bAppend d0 d1).2)] ∧ Ow (.sl .byte) m' [s0] ((bAppend d0 d1).1)) := by
  obtain ⟨A0, c0, rfl, l0, k0⟩ := h0.slice
  simp only [maxLen] at k0
  obtain ⟨A1, c1, rfl, l1, k1⟩ := h1.slice
  simp only [maxLen] at k1
  refine CallR.ofA (n := 70) Try.func30 rfl rfl rfl ?_
  refine VC.rs ?_
  refine VO.as ?_
  refine VO.as ?_
  refine VO.k4 0 1 4 5 ?_
  refine VC.seq ?_
  refine VC.rs ?_
  refine VO.mv ?_
  refine VO.callN 101 rfl fnOk26 rfl (fun W hW => bCheck_ok W (Rd.mono h1 (hW.at (i := 0) rfl))) (fun v1 m1 hv1 => ?_)
  subst hv1
  have hfa2 := batchCheck_range d1
  refine VO.as ?_
  refine VO.k5 0 1 4 5 6 ?_
  refine VC.rs ?_
  refine VO.mv ?_
  refine VO.y rfl (.neq rfl rfl) ?_
  refine VO.keep [0] [(0, wm W)] (by kernel_rfl) ?_
  refine VO.k6 0 1 4 5 6 16 ?_
  refine VC.cond rfl (fun hc3 => ?_) (fun hc3 => ?_)
  · -- T
    refine VC.rs ?_
    refine VO.mv ?_
    refine VO.as ?_
    refine VO.as ?_
    refine VO.k6 0 1 4 5 6 16 ?_
    refine VC.ret ?_
    refine outR ?_
    refine ⟨_, _, res_run (rs := [.tmp 4, .tmp 5]) rfl (.tmp rfl (.tmp rfl .nil)), fun W_ hI => out_of (l := []) hI [] rfl rfl (mle_refl _) (fun hS_ => ?_)⟩
    dsimp only [packV]
    have he0 : ((bAppend d0 d1).1 : Ty.Den (.sl .byte)) = [] := by first | rfl | (first | (rw [bAppend_bad ‹_›] <;> rfl) | (rw [bAppend_good (by omega)]; dsimp only; rw [← he, List.drop_of_length_le (by omega)]; simp [encOps]))
    refine ⟨Value.slice none (0) (0), ?_, ?_⟩
    rotate_left
    · rw [he0]; exact (Ow.nil _ _)
    all_goals (first | rfl | (first | (rw [bAppend_bad ‹_›] <;> rfl) | (rw [bAppend_good (by omega)] <;> rfl)))
  · -- F
    refine VC.skip ?_
    refine outN ?_
    refine VC.rs ?_
    refine VO.mv ?_
    refine VO.mv ?_
    refine VO.y rfl (.lenS rfl tsl22) ?_
    refine VO.y rfl (.cvI rfl ⟨_, Try.underlying3⟩ Try.underlying112 (IntWalk.u64_in _ (by exact fin0_bAppend_ok))) ?_
    refine VO.callN 104 rfl fnOk97 rfl (fun W hW => vAppend_ok W (Rd.mono h0 (hW.at (i := 0) rfl)) d1.length (by exact fin0_bAppend_ok) (by exact fin0_bAppend_ok)) (fun v4 m4 hv4 => ?_)
    obtain ⟨s4_0, rfl, f4_0⟩ := hv4
    have hfa5 := venc_len (x := d1.length) (by first | omega | exact or64 (by assumption) _)
    obtain ⟨A4_0, c4_0, eq4_0, l4_0, k4_0⟩ := f4_0.slice
    subst eq4_0
    simp only [maxLen] at k4_0
    refine VO.as ?_
    refine VO.k7 0 1 4 5 6 7 16 ?_
    refine VC.rs ?_
    refine VO.as ?_
    refine VO.k8 0 1 4 5 6 7 8 16 ?_
    refine VC.seq ?_
    refine VC.rs ?_
    refine VO.mv ?_
    refine VO.y rfl (.lenS rfl tsl22) ?_
    refine VO.mv ?_
    refine VO.keep [104, 0] [(104, m4), (0, wm W)] (by kernel_rfl) ?_
    refine VO.k11 0 1 4 5 6 7 8 16 23 24 25 ?_
    refine VC.block ?_
    refine VC.loop (G := Nat × (List UInt8) × (List UInt8) × (Option Addr) × Nat × Mem) (fun g => [(7, Value.slice (g.2.2.2.1) ((g.2.2.1).length) ((g.2.2.2.2.1))), (8, str ((g.2.1))), (25, Value.int .i64 ((((g.1) : Nat) : Int))), (0, Value.slice A0 (d0.length) (c0)), (1, Value.slice A1 (d1.length) (c1)), (4, Value.slice none (0) (0)), (5, Value.int .i64 (0)), (6, Value.int .i64 (batchCheck d1)), (16, Value.bool (decide (¬ (batchCheck d1) = 0))), (23, Value.slice A1 (d1.length) (c1)), (24, Value.int .i64 (((d1.length : Nat) : Int)))]) (fun g => [(104, (g.2.2.2.2.2)), (0, wm W)]) (fun g => ((g.1) ≤ d1.length) ∧ ((g.2.2.1) ++ encOps (g.2.1) (d1.drop (g.1)) = d0 ++ batchEnc d1) ∧ ((g.2.2.1).length ≤ d0.length + 10 + 80 * (g.1)) ∧ ((g.2.1).length ≤ 16) ∧ (OwnL .byte (g.2.2.2.2.2) mnil (.slice (g.2.2.2.1) (g.2.2.1).length (g.2.2.2.2.1)) (g.2.2.1))) (fun g => d1.length - (g.1)) (0, [], d0 ++ venc d1.length, A4_0, c4_0, m4) (⟨by omega, by (simp [batchEnc]), by (have := venc_len (x := d1.length) (by omega); simp; omega), by (simp; done), (Ow.ownl f4_0 rfl mnil)⟩) ⟨⟨rfl, rfl, rfl, rfl, rfl, rfl, rfl, rfl, rfl, rfl, rfl, trivial⟩, fun _ h => h.sub [104, 0]⟩ ?_
    rintro ⟨k, last, out, out_A, out_c, out_m⟩ ⟨hk, he, hlo, hla, h_out⟩
    replace hk : k ≤ d1.length := hk
    replace he : out ++ encOps last (d1.drop k) = d0 ++ batchEnc d1 := he
    replace hlo : out.length ≤ d0.length + 10 + 80 * k := hlo
    replace hla : last.length ≤ 16 := hla
    replace h_out : OwnL .byte out_m mnil (.slice out_A out.length out_c) out := h_out
    show VC _ _ _ _ _ [(7, Value.slice out_A (out.length) (out_c)), (8, str (last)), (25, Value.int .i64 (((k : Nat) : Int))), (0, Value.slice A0 (d0.length) (c0)), (1, Value.slice A1 (d1.length) (c1)), (4, Value.slice none (0) (0)), (5, Value.int .i64 (0)), (6, Value.int .i64 (batchCheck d1)), (16, Value.bool (decide (¬ (batchCheck d1) = 0))), (23, Value.slice A1 (d1.length) (c1)), (24, Value.int .i64 (((d1.length : Nat) : Int)))] [(104, out_m), (0, wm W)]
    have l_out : out.length ≤ out_c := by obtain ⟨_, _, he, hl, _⟩ := h_out.slice; simp only [Value.slice.injEq] at he; omega
    have k_out : out_c ≤ 9223372036854775807 := by obtain ⟨_, _, he, _, hl⟩ := h_out.slice; simp only [Value.slice.injEq, maxLen] at he hl; omega
    refine VC.rs ?_
    refine VO.y rfl (.lss rfl rfl) ?_
    refine VO.k12 0 1 4 5 6 7 8 16 23 24 25 26 ?_
    refine VC.seq ?_
    refine VC.cond rfl (fun hc6 => ?_) (fun hc6 => ?_)
    · -- FT
      refine VC.skip ?_
      refine outN ?_
      refine VC.seq ?_
      refine VC.block ?_
      refine VC.rs ?_
      obtain ⟨x7, hx7⟩ : ∃ z_, (d1)[k]? = some z_ := ⟨_, List.getElem?_eq_getElem (by exact fin0_bAppend_ok)⟩
      obtain ⟨gg7, oo7, ec7, ea7, hce7, hre7⟩ := h1.elem hx7
      cases ea7
      obtain ⟨rfl, q7_1, q7_2⟩ := open_Op (x0 := x7.1) (x1 := x7.2.1) (x2 := x7.2.2) hre7
      simp only [maxLen] at q7_1
      simp only [maxLen] at q7_2
      refine VO.y rfl (.ixI k rfl rfl tsl22 rfl (by exact fin0_bAppend_ok)) ?_
      refine VO.y rfl (.ldA 0 rfl tk49 rfl hce7) ?_
      refine VO.alloc 109 rfl tz49 (fun g8 => ?_)
      refine VO.store (k := 3) (c' := [Value.bool x7.1, str (x7.2.1), str (x7.2.2)]) 109 rfl rfl (.inl tk49) rfl rfl rfl rfl rfl ?_
      refine VO.k13 0 1 4 5 6 7 8 10 16 23 24 25 26 ?_
      refine VC.rs ?_
      refine VO.mv ?_
      refine VO.y rfl (.fa rfl tst49 rfl) ?_
      refine VO.y rfl (.ld1 109 rfl tk9 rfl (cellsAt_one rfl rfl)) ?_
      refine VO.callN 110 rfl fnOk27 rfl (fun W hW => shared_ok W last (by simp only [maxLen]; (exact fin0_bAppend_ok)) x7.2.1 (by simp only [maxLen]; (exact fin0_bAppend_ok))) (fun v10 m10 hv10 => ?_)
      subst hv10
      have hfa11 := shared_le last x7.2.1
      refine VO.as ?_
      refine VO.keep [109, 104, 0] [(109, mone g8 (.cells [Value.bool x7.1, str (x7.2.1), str (x7.2.2)].toArray 49 (0, 0))), (104, out_m), (0, wm W)] (by kernel_rfl) ?_
      refine VO.k14 0 1 4 5 6 7 8 10 11 16 23 24 25 26 ?_
      refine VC.rs ?_
      refine VO.as ?_
      refine VO.k15 0 1 4 5 6 7 8 10 11 12 16 23 24 25 26 ?_
      refine VC.seq ?_
      refine VC.rs ?_
      refine VO.y rfl (.fa rfl tst49 rfl) ?_
      refine VO.y rfl (.ld1 109 rfl tk4 rfl (cellsAt_one rfl rfl)) ?_
      refine VO.k16 0 1 4 5 6 7 8 10 11 12 16 23 24 25 26 34 ?_
      refine VC.condB rfl (fun hc12 => ?_) (fun hc12 => ?_)
      · -- FTT
        refine VC.reg ?_
        refine VO.as ?_
        refine VO.keep [109, 104, 0] [(109, mone g8 (.cells [Value.bool x7.1, str (x7.2.1), str (x7.2.2)].toArray 49 (0, 0))), (104, out_m), (0, wm W)] (by kernel_rfl) ?_
        refine VO.k16 0 1 4 5 6 7 8 10 11 12 16 23 24 25 26 34 ?_
        refine outN ?_
        refine VC.rs ?_
        refine VO.mv ?_
        refine VO.mv ?_
        refine VO.bsl (cs := [Value.int .u8 (1)]) 114 rfl rfl tsl23 tz5 rfl rfl (fun g13 => ?_)
        obtain ⟨mo15, cs15, hM15, hA15, hC15⟩ := h_out
        refine VO.app 104 rfl rfl rfl tsl23 tz5 rfl rfl hM15 hA15 (.row 114 _ _ _ 1 1 _ _ Try.underlying23 rfl (cellsAt_one rfl rfl)) (by simp [Value.oneCell']) (by simp only [maxLen]; (exact fin0_bAppend_ok)) (by exact fin0_bAppend_ok) (by decide) (fun v15 m15 hN15 => ?_)
        have ho15 : OwnL .byte m15 mnil v15 (out ++ [UInt8.ofNat 1]) := OwnL.one hC15 hN15 (rd_byteN (by exact fin0_bAppend_ok))
        obtain ⟨A15, c15, rfl, l15, k15⟩ := ho15.slice
        simp only [maxLen] at k15
        refine VO.mv ?_
        refine VO.y rfl (.cvI rfl ⟨_, Try.underlying3⟩ Try.underlying112 (IntWalk.u64_in _ (by exact fin0_bAppend_ok))) ?_
        refine VO.callN 116 rfl fnOk97 rfl (fun W hW => vAppend_ok W (OwnL.rd ho15 (hW.at (i := 104) rfl) (mle_nil _)) (shared last x7.2.1) (by exact fin0_bAppend_ok) (by exact fin0_bAppend_ok)) (fun v16 m16 hv16 => ?_)
        obtain ⟨s16_0, rfl, f16_0⟩ := hv16
        have hfa17 := venc_len (x := (shared last x7.2.1)) (by first | omega | exact or64 (by assumption) _)
        obtain ⟨A16_0, c16_0, eq16_0, l16_0, k16_0⟩ := f16_0.slice
        subst eq16_0
        simp only [maxLen] at k16_0
        refine VO.as ?_
        refine VO.k16 0 1 4 5 6 7 8 10 11 12 16 23 24 25 26 34 ?_
        refine VC.seq ?_
        refine VC.regD _ 12 [(0, true), (1, true), (2, true), (3, true), (4, true), (5, true), (6, true), (8, true), (9, true), (10, true), (11, true), (7, false)] follows (by kernel_rfl) (fun _ h => h.sub [116, 114, 109, 104, 0]) ?_
        refine VD.y rfl rfl (.inl rfl) (.mv rfl) ?_
        refine VD.y rfl rfl (.inl rfl) (.fa rfl tst49 rfl) ?_
        refine VD.y rfl rfl (.inl rfl) (.ld1 109 rfl tk9 rfl (cellsAt_one rfl rfl)) ?_
        refine VD.y rfl rfl (.inl rfl) (.lenT rfl Try.underlying9) ?_
        refine VD.y rfl rfl (.inl rfl) (.mv rfl) ?_
        refine VD.y rfl rfl (.inl rfl) (.sub rfl rfl rfl ⟨by exact fin0_bAppend_ok, by exact fin0_bAppend_ok⟩) ?_
        refine VD.y rfl rfl (.inl rfl) (.cvI (c := ((((x7.2.1.length : Nat) : Int) - ((shared last x7.2.1 : Nat) : Int)).toNat : Int)) rfl ⟨_, Try.underlying3⟩ Try.underlying112 (by rw [IntWalk.u64_in _ (by exact fin0_bAppend_ok)]; first | omega | (exact fin0_bAppend_ok))) ?_
        refine VD.y rfl rfl (.inl rfl) (.fa rfl tst49 rfl) ?_
        refine VD.y rfl rfl (.inl rfl) (.ld1 109 rfl tk9 rfl (cellsAt_one rfl rfl)) ?_
        refine VD.y rfl rfl (.inl rfl) (.mv rfl) ?_
        refine VD.y rfl rfl (.inl rfl) (.slTLI (shared last x7.2.1) rfl rfl Try.underlying9 rfl (by exact fin0_bAppend_ok)) ?_
        refine VD.callN 118 rfl rfl (.inl rfl) fnOk97 rfl (fun _ h => h.sub [116, 114, 109, 104, 0]) (fun W hW => vAppend_ok W (OwnL.rd (Ow.ownl f16_0 rfl mnil) (hW.at (i := 116) rfl) (mle_nil _)) ((((x7.2.1.length : Nat) : Int) - ((shared last x7.2.1 : Nat) : Int)).toNat) (by exact fin0_bAppend_ok) (by exact fin0_bAppend_ok)) (fun v18 m18 hv18 => ?_)
        obtain ⟨s18_0, rfl, f18_0⟩ := hv18
        have hfa19 := venc_len (x := ((((x7.2.1.length : Nat) : Int) - ((shared last x7.2.1 : Nat) : Int)).toNat)) (by first | omega | exact or64 (by assumption) _)
        obtain ⟨A18_0, c18_0, eq18_0, l18_0, k18_0⟩ := f18_0.slice
        subst eq18_0
        simp only [maxLen] at k18_0
        refine VD.nil rfl ?_ rfl
        obtain ⟨mo20, cs20, hM20, hA20, hC20⟩ := (Ow.ownl f18_0 rfl mnil)
        refine VO.app 118 rfl rfl rfl tsl23 tz5 rfl rfl hM20 hA20 (.str _ Try.underlying9 rfl) (byV_nice _) (by simp only [maxLen]; (exact fin0_bAppend_ok)) (by exact fin0_bAppend_ok) (by decide) (fun v20 m20 hN20 => ?_)
        have ho20 : OwnL .byte m20 mnil v20 ((((out ++ [UInt8.ofNat 1]) ++ venc (shared last x7.2.1)) ++ venc ((((x7.2.1.length : Nat) : Int) - ((shared last x7.2.1 : Nat) : Int)).toNat)) ++ (x7.2.1.drop (shared last x7.2.1))) := OwnL.more hC20 hN20 (rd_str _ _)
        obtain ⟨A20, c20, rfl, l20, k20⟩ := ho20.slice
        simp only [maxLen] at k20
        refine VO.as ?_
        refine VO.k16 0 1 4 5 6 7 8 10 11 12 16 23 24 25 26 34 ?_
        refine outN ?_
        refine VC.seq ?_
        refine VC.rs ?_
        refine VO.y rfl (.fa rfl tst49 rfl) ?_
        refine VO.y rfl (.ld1 109 rfl tk4 rfl (cellsAt_one rfl rfl)) ?_
        refine VO.keep [118, 109, 0] [(118, m20), (109, mone g8 (.cells [Value.bool x7.1, str (x7.2.1), str (x7.2.2)].toArray 49 (0, 0))), (0, wm W)] (by kernel_rfl) ?_
        refine VO.k17 0 1 4 5 6 7 8 10 11 12 16 23 24 25 26 34 56 ?_
        refine VC.condKT rfl hc12 ?_
        refine VC.regD _ 8 [(0, true), (1, true), (2, true), (3, true), (4, true), (6, true), (7, true), (5, false)] follows (by kernel_rfl) (fun _ h => h.sub [118, 109, 0]) ?_
        refine VD.y rfl rfl (.inl rfl) (.mv rfl) ?_
        refine VD.y rfl rfl (.inl rfl) (.fa rfl tst49 rfl) ?_
        refine VD.y rfl rfl (.inl rfl) (.ld1 109 rfl tk9 rfl (cellsAt_one rfl rfl)) ?_
        refine VD.y rfl rfl (.inl rfl) (.lenT rfl Try.underlying9) ?_
        refine VD.y rfl rfl (.inl rfl) (.cvI rfl ⟨_, Try.underlying3⟩ Try.underlying112 (IntWalk.u64_in _ (by exact fin0_bAppend_ok))) ?_
        refine VD.y rfl rfl (.inl rfl) (.fa rfl tst49 rfl) ?_
        refine VD.y rfl rfl (.inl rfl) (.ld1 109 rfl tk9 rfl (cellsAt_one rfl rfl)) ?_
        refine VD.callN 121 rfl rfl (.inl rfl) fnOk97 rfl (fun _ h => h.sub [118, 109, 0]) (fun W hW => vAppend_ok W (OwnL.rd ho20 (hW.at (i := 118) rfl) (mle_nil _)) x7.2.2.length (by exact fin0_bAppend_ok) (by exact fin0_bAppend_ok)) (fun v21 m21 hv21 => ?_)
        obtain ⟨s21_0, rfl, f21_0⟩ := hv21
        have hfa22 := venc_len (x := x7.2.2.length) (by first | omega | exact or64 (by assumption) _)
        obtain ⟨A21_0, c21_0, eq21_0, l21_0, k21_0⟩ := f21_0.slice
        subst eq21_0
        simp only [maxLen] at k21_0
        refine VD.nil rfl ?_ rfl
        obtain ⟨mo23, cs23, hM23, hA23, hC23⟩ := (Ow.ownl f21_0 rfl mnil)
        refine VO.app 121 rfl rfl rfl tsl23 tz5 rfl rfl hM23 hA23 (.str _ Try.underlying9 rfl) (byV_nice _) (by simp only [maxLen]; (exact fin0_bAppend_ok)) (by exact fin0_bAppend_ok) (by decide) (fun v23 m23 hN23 => ?_)
        have ho23 : OwnL .byte m23 mnil v23 ((((((out ++ [UInt8.ofNat 1]) ++ venc (shared last x7.2.1)) ++ venc ((((x7.2.1.length : Nat) : Int) - ((shared last x7.2.1 : Nat) : Int)).toNat)) ++ (x7.2.1.drop (shared last x7.2.1))) ++ venc x7.2.2.length) ++ x7.2.2) := OwnL.more hC23 hN23 (rd_str _ _)
        obtain ⟨A23, c23, rfl, l23, k23⟩ := ho23.slice
        simp only [maxLen] at k23
        refine VO.as ?_
        refine VO.k17 0 1 4 5 6 7 8 10 11 12 16 23 24 25 26 34 56 ?_
        refine outN ?_
        refine VC.reg ?_
        refine VO.y rfl (.fa rfl tst49 rfl) ?_
        refine VO.y rfl (.ld1 109 rfl tk9 rfl (cellsAt_one rfl rfl)) ?_
        refine VO.as ?_
        refine VO.k17 0 1 4 5 6 7 8 10 11 12 16 23 24 25 26 34 56 ?_
        refine outBN ?_
        refine outN ?_
        refine VC.reg ?_
        refine VO.y rfl (.add (c := ((k + 1 : Nat) : Int)) rfl rfl (by omega) ⟨by exact fin0_bAppend_ok, by exact fin0_bAppend_ok⟩) ?_
        refine VO.mv ?_
        refine VO.keep [121, 109, 0] [(121, m23), (109, mone g8 (.cells [Value.bool x7.1, str (x7.2.1), str (x7.2.2)].toArray 49 (0, 0))), (0, wm W)] (by kernel_rfl) ?_
        refine VO.k17 0 1 4 5 6 7 8 10 11 12 16 23 24 25 26 34 56 ?_
        exact outN ⟨⟨k + 1, x7.2.1, (((((out ++ [UInt8.ofNat 1]) ++ venc (shared last x7.2.1)) ++ venc ((((x7.2.1.length : Nat) : Int) - ((shared last x7.2.1 : Nat) : Int)).toNat)) ++ (x7.2.1.drop (shared last x7.2.1))) ++ venc x7.2.2.length) ++ x7.2.2, A23, c23, m23⟩, ⟨by omega, by exact enc_step2 he ‹d1[k]? = some _› (by first | (rw [enc_put (by assumption)]; simp only [List.append_assoc, List.cons_append, List.nil_append, List.singleton_append, Int.toNat_sub]; rfl) | (rw [enc_del (by assumption)]; simp only [List.append_assoc, List.cons_append, List.nil_append, List.singleton_append, Int.toNat_sub]; rfl)), by exact enc_len2 (last := last) hlo (by omega) ‹d1[k]? = some _› (by first | (rw [enc_put (by assumption)]; simp only [List.append_assoc, List.cons_append, List.nil_append, List.singleton_append, Int.toNat_sub]; rfl) | (rw [enc_del (by assumption)]; simp only [List.append_assoc, List.cons_append, List.nil_append, List.singleton_append, Int.toNat_sub]; rfl)), by (have ho_ := batchCheck_mem (by omega : batchCheck d1 = 0) (List.mem_of_getElem? ‹d1[k]? = some _›); have := ho_.2.1; have := ho_.2.2.1; have := encOp_len (last := last) ho_; have := (batch_len (by omega : batchCheck d1 = 0)).2; omega), ho23⟩, by exact fin0_bAppend_ok, ⟨⟨rfl, rfl, rfl, rfl, rfl, rfl, rfl, rfl, rfl, rfl, rfl, trivial⟩, fun _ h => Inv.sub (Inv.num h 121 104 rfl) [104, 0]⟩⟩
      · -- FTF
        refine VC.skip ?_
        refine outN ?_
        refine VC.rs ?_
        refine VO.mv ?_
        refine VO.mv ?_
        refine VO.bsl (cs := [Value.int .u8 (0)]) 125 rfl rfl tsl23 tz5 rfl rfl (fun g24 => ?_)
        obtain ⟨mo26, cs26, hM26, hA26, hC26⟩ := h_out
        refine VO.app 104 rfl rfl rfl tsl23 tz5 rfl rfl hM26 hA26 (.row 125 _ _ _ 1 1 _ _ Try.underlying23 rfl (cellsAt_one rfl rfl)) (by simp [Value.oneCell']) (by simp only [maxLen]; (exact fin0_bAppend_ok)) (by exact fin0_bAppend_ok) (by decide) (fun v26 m26 hN26 => ?_)
        have ho26 : OwnL .byte m26 mnil v26 (out ++ [UInt8.ofNat 0]) := OwnL.one hC26 hN26 (rd_byteN (by exact fin0_bAppend_ok))
        obtain ⟨A26, c26, rfl, l26, k26⟩ := ho26.slice
        simp only [maxLen] at k26
        refine VO.mv ?_
        refine VO.y rfl (.cvI rfl ⟨_, Try.underlying3⟩ Try.underlying112 (IntWalk.u64_in _ (by exact fin0_bAppend_ok))) ?_
        refine VO.callN 127 rfl fnOk97 rfl (fun W hW => vAppend_ok W (OwnL.rd ho26 (hW.at (i := 104) rfl) (mle_nil _)) (shared last x7.2.1) (by exact fin0_bAppend_ok) (by exact fin0_bAppend_ok)) (fun v27 m27 hv27 => ?_)
        obtain ⟨s27_0, rfl, f27_0⟩ := hv27
        have hfa28 := venc_len (x := (shared last x7.2.1)) (by first | omega | exact or64 (by assumption) _)
        obtain ⟨A27_0, c27_0, eq27_0, l27_0, k27_0⟩ := f27_0.slice
        subst eq27_0
        simp only [maxLen] at k27_0
        refine VO.as ?_
        refine VO.keep [127, 109, 0] [(127, m27), (109, mone g8 (.cells [Value.bool x7.1, str (x7.2.1), str (x7.2.2)].toArray 49 (0, 0))), (0, wm W)] (by kernel_rfl) ?_
        refine VO.k16 0 1 4 5 6 7 8 10 11 12 16 23 24 25 26 34 ?_
        refine VC.seq ?_
        refine VC.regD _ 12 [(0, true), (1, true), (2, true), (3, true), (4, true), (5, true), (6, true), (8, true), (9, true), (10, true), (11, true), (7, false)] follows (by kernel_rfl) (fun _ h => h.sub [127, 109, 0]) ?_
        refine VD.y rfl rfl (.inl rfl) (.mv rfl) ?_
        refine VD.y rfl rfl (.inl rfl) (.fa rfl tst49 rfl) ?_
        refine VD.y rfl rfl (.inl rfl) (.ld1 109 rfl tk9 rfl (cellsAt_one rfl rfl)) ?_
        refine VD.y rfl rfl (.inl rfl) (.lenT rfl Try.underlying9) ?_
        refine VD.y rfl rfl (.inl rfl) (.mv rfl) ?_
        refine VD.y rfl rfl (.inl rfl) (.sub rfl rfl rfl ⟨by exact fin0_bAppend_ok, by exact fin0_bAppend_ok⟩) ?_
        refine VD.y rfl rfl (.inl rfl) (.cvI (c := ((((x7.2.1.length : Nat) : Int) - ((shared last x7.2.1 : Nat) : Int)).toNat : Int)) rfl ⟨_, Try.underlying3⟩ Try.underlying112 (by rw [IntWalk.u64_in _ (by exact fin0_bAppend_ok)]; first | omega | (exact fin0_bAppend_ok))) ?_
        refine VD.y rfl rfl (.inl rfl) (.fa rfl tst49 rfl) ?_
        refine VD.y rfl rfl (.inl rfl) (.ld1 109 rfl tk9 rfl (cellsAt_one rfl rfl)) ?_
        refine VD.y rfl rfl (.inl rfl) (.mv rfl) ?_
        refine VD.y rfl rfl (.inl rfl) (.slTLI (shared last x7.2.1) rfl rfl Try.underlying9 rfl (by exact fin0_bAppend_ok)) ?_
        refine VD.callN 129 rfl rfl (.inl rfl) fnOk97 rfl (fun _ h => h.sub [127, 109, 0]) (fun W hW => vAppend_ok W (OwnL.rd (Ow.ownl f27_0 rfl mnil) (hW.at (i := 127) rfl) (mle_nil _)) ((((x7.2.1.length : Nat) : Int) - ((shared last x7.2.1 : Nat) : Int)).toNat) (by exact fin0_bAppend_ok) (by exact fin0_bAppend_ok)) (fun v29 m29 hv29 => ?_)
        obtain ⟨s29_0, rfl, f29_0⟩ := hv29
        have hfa30 := venc_len (x := ((((x7.2.1.length : Nat) : Int) - ((shared last x7.2.1 : Nat) : Int)).toNat)) (by first | omega | exact or64 (by assumption) _)
        obtain ⟨A29_0, c29_0, eq29_0, l29_0, k29_0⟩ := f29_0.slice
        subst eq29_0
        simp only [maxLen] at k29_0
        refine VD.nil rfl ?_ rfl
        obtain ⟨mo31, cs31, hM31, hA31, hC31⟩ := (Ow.ownl f29_0 rfl mnil)
        refine VO.app 129 rfl rfl rfl tsl23 tz5 rfl rfl hM31 hA31 (.str _ Try.underlying9 rfl) (byV_nice _) (by simp only [maxLen]; (exact fin0_bAppend_ok)) (by exact fin0_bAppend_ok) (by decide) (fun v31 m31 hN31 => ?_)
        have ho31 : OwnL .byte m31 mnil v31 ((((out ++ [UInt8.ofNat 0]) ++ venc (shared last x7.2.1)) ++ venc ((((x7.2.1.length : Nat) : Int) - ((shared last x7.2.1 : Nat) : Int)).toNat)) ++ (x7.2.1.drop (shared last x7.2.1))) := OwnL.more hC31 hN31 (rd_str _ _)
        obtain ⟨A31, c31, rfl, l31, k31⟩ := ho31.slice
        simp only [maxLen] at k31
        refine VO.as ?_
        refine VO.k16 0 1 4 5 6 7 8 10 11 12 16 23 24 25 26 34 ?_
        refine outN ?_
        refine VC.seq ?_
        refine VC.rs ?_
        refine VO.y rfl (.fa rfl tst49 rfl) ?_
        refine VO.y rfl (.ld1 109 rfl tk4 rfl (cellsAt_one rfl rfl)) ?_
        refine VO.k17 0 1 4 5 6 7 8 10 11 12 16 23 24 25 26 34 56 ?_
        refine VC.condKF rfl hc12 ?_
        refine VC.skip ?_
        refine outN ?_
        refine VC.reg ?_
        refine VO.y rfl (.fa rfl tst49 rfl) ?_
        refine VO.y rfl (.ld1 109 rfl tk9 rfl (cellsAt_one rfl rfl)) ?_
        refine VO.as ?_
        refine VO.keep [129, 109, 0] [(129, m31), (109, mone g8 (.cells [Value.bool x7.1, str (x7.2.1), str (x7.2.2)].toArray 49 (0, 0))), (0, wm W)] (by kernel_rfl) ?_
        refine VO.k17 0 1 4 5 6 7 8 10 11 12 16 23 24 25 26 34 56 ?_
        refine outBN ?_
        refine outN ?_
        refine VC.reg ?_
        refine VO.y rfl (.add (c := ((k + 1 : Nat) : Int)) rfl rfl (by omega) ⟨by exact fin0_bAppend_ok, by exact fin0_bAppend_ok⟩) ?_
        refine VO.mv ?_
        refine VO.k17 0 1 4 5 6 7 8 10 11 12 16 23 24 25 26 34 56 ?_
        exact outN ⟨⟨k + 1, x7.2.1, (((out ++ [UInt8.ofNat 0]) ++ venc (shared last x7.2.1)) ++ venc ((((x7.2.1.length : Nat) : Int) - ((shared last x7.2.1 : Nat) : Int)).toNat)) ++ (x7.2.1.drop (shared last x7.2.1)), A31, c31, m31⟩, ⟨by omega, by exact enc_step2 he ‹d1[k]? = some _› (by first | (rw [enc_put (by assumption)]; simp only [List.append_assoc, List.cons_append, List.nil_append, List.singleton_append, Int.toNat_sub]; rfl) | (rw [enc_del (by assumption)]; simp only [List.append_assoc, List.cons_append, List.nil_append, List.singleton_append, Int.toNat_sub]; rfl)), by exact enc_len2 (last := last) hlo (by omega) ‹d1[k]? = some _› (by first | (rw [enc_put (by assumption)]; simp only [List.append_assoc, List.cons_append, List.nil_append, List.singleton_append, Int.toNat_sub]; rfl) | (rw [enc_del (by assumption)]; simp only [List.append_assoc, List.cons_append, List.nil_append, List.singleton_append, Int.toNat_sub]; rfl)), by (have ho_ := batchCheck_mem (by omega : batchCheck d1 = 0) (List.mem_of_getElem? ‹d1[k]? = some _›); have := ho_.2.1; have := ho_.2.2.1; have := encOp_len (last := last) ho_; have := (batch_len (by omega : batchCheck d1 = 0)).2; omega), ho31⟩, by exact fin0_bAppend_ok, ⟨⟨rfl, rfl, rfl, rfl, rfl, rfl, rfl, rfl, rfl, rfl, rfl, trivial⟩, fun _ h => Inv.sub (Inv.num h 129 104 rfl) [104, 0]⟩⟩
    · -- FF
      refine VC.exit ?_
      refine outE ?_
      refine outE ?_
      refine outBB ?_
      refine outN ?_
      refine VC.rs ?_
      refine VO.mv ?_
      refine VO.as ?_
      refine VO.as ?_
      refine VO.k12 0 1 4 5 6 7 8 16 23 24 25 26 ?_
      refine VC.ret ?_
      refine ⟨_, _, res_run (rs := [.tmp 4, .tmp 5]) rfl (.tmp rfl (.tmp rfl .nil)), fun W_ hI => out_of (l := [out_m]) hI [104] rfl rfl (mle_refl _) (fun hS_ => ?_)⟩
      dsimp only [packV]
      have he0 : ((bAppend d0 d1).1 : Ty.Den (.sl .byte)) = out := by first | rfl | (first | (rw [bAppend_bad ‹_›] <;> rfl) | (rw [bAppend_good (by omega)]; dsimp only; rw [← he, List.drop_of_length_le (by omega)]; simp [encOps]))
      refine ⟨Value.slice out_A (out.length) (out_c), ?_, ?_⟩
      rotate_left
      · rw [he0]; exact (Ow.up (OwnL.ow h_out rfl) (hS_.1 _ (.head _)))
      all_goals (first | rfl | (first | (rw [bAppend_bad ‹_›] <;> rfl) | (rw [bAppend_good (by omega)] <;> rfl)))
end
section
set_option linter.unusedVariables false
set_option linter.unusedSimpArgs false
set_option maxRecDepth 4000
theorem fnOk24 : fnOk Try.prog 24 = true := by kernel_rfl
theorem fnOk30 : fnOk Try.prog 30 = true := by kernel_rfl
end
section
set_option linter.unusedVariables false
theorem Seps.back {e : Ty} {mr me : Mem} {v : Value} {xs : List e.Den} (hS : Seps (muns [mr, me]) [mr, me]) (h : mdj mr me → Ow (.sl e) (mun mr me) [v] xs) : Ow (.sl e) (muns [mr, me]) [v] xs :=
  (h (by simpa using hS.2)).up (mun_le (hS.1 _ (.head _)) (hS.1 _ (.tail _ (.head _))))
end
section
set_option linter.unusedVariables false
theorem bRead_keys (B : Bytes) : ∀ o ∈ (bRead B).1, o.2.1.length ≤ 16 := by
  rcases bRead_cases B with h0 | h0
  · generalize hp : bRead B = p at *
    obtain ⟨m, n, f⟩ := p
    dsimp only at h0
    subst h0
    exact fun o ho => (batchCheck_mem (bRead_back hp).1 ho).2.1
  · rw [h0]; exact fun o ho => (by cases ho)
end
section
set_option linter.unusedVariables false
set_option linter.unusedSimpArgs false
set_option maxRecDepth 4000
theorem tz23 : tz Try.prog 23 = some [.slice none 0 0] := by kernel_rfl
end
section
set_option linter.unusedVariables false
def zC : DCommit := (0, 0, [])
def cEnc (c : DCommit) : Bytes := venc c.1.toNat ++ (venc c.2.1.toNat ++ batchEnc c.2.2)
def cEncode (c : DCommit) : Bytes × Int := if cCheck c = 0 then (cEnc c, 0) else ([], cCheck c)
def cPart (B : Bytes) : DCommit := ((sX B 1048576 : Int), (sX (B.drop (sN B 1048576)) 1048576 : Int), (bRead (B.drop (sN B 1048576 + sN (B.drop (sN B 1048576)) 1048576))).1)
def cDecode (B : Bytes) : DCommit × Int :=
  if sE B 1048576 = 0 ∧ sE (B.drop (sN B 1048576)) 1048576 = 0 ∧ (bRead (B.drop (sN B 1048576 + sN (B.drop (sN B 1048576)) 1048576))).2.2 = 0 ∧
    ((sN B 1048576 : Int) + (sN (B.drop (sN B 1048576)) 1048576 : Int) + (bRead (B.drop (sN B 1048576 + sN (B.drop (sN B 1048576)) 1048576))).2.1 = B.length) ∧ cCheck (cPart B) = 0 then (cPart B, 0) else (zC, 5)
theorem s_there {x : Nat} {m : Int} (h : (x : Int) ≤ m) (hm : m ≤ 9223372036854775807) (r : Bytes) : sX (venc x ++ r) m = x ∧ sN (venc x ++ r) m = (venc x).length ∧ sE (venc x ++ r) m = 0 := by
  have hs : vsmall (venc x ++ r) m = some (x, (venc x).length) := by unfold vsmall; rw [vread_there (by omega)]; exact if_pos h
  unfold sX sN sE; rw [hs]; exact ⟨rfl, rfl, rfl⟩
theorem s_back {B : Bytes} {m : Int} (h : sE B m = 0) : B = venc (sX B m) ++ B.drop (sN B m) := by
  unfold sE sX sN vsmall at *
  cases hv : vread B with
  | none => rw [hv] at h; cases h
  | some p =>
    obtain ⟨y, n⟩ := p
    rw [hv] at h
    dsimp only at h ⊢
    by_cases hy : (y : Int) ≤ m
    · rw [if_pos hy]; exact (vread_back hv).1
    · rw [if_neg hy] at h; cases h
theorem cCheck_zero {c : DCommit} (h : cCheck c = 0) : 1 ≤ c.1 ∧ c.1 ≤ 1048576 ∧ 1 ≤ c.2.1 ∧ c.2.1 ≤ 1048576 ∧ batchCheck c.2.2 = 0 := by
  unfold cCheck at h
  split at h
  · split at h
    · exact ⟨by omega, by omega, by omega, by omega, h⟩
    · cases h
  · cases h
theorem cDecode_there {c : DCommit} (h : cCheck c = 0) : cDecode (cEnc c) = (c, 0) := by
  obtain ⟨h1, h2, h3, h4, h5⟩ := cCheck_zero h
  obtain ⟨a1, a2, a3⟩ := s_there (x := c.1.toNat) (m := 1048576) (by omega) (by omega) (venc c.2.1.toNat ++ batchEnc c.2.2)
  obtain ⟨b1, b2, b3⟩ := s_there (x := c.2.1.toNat) (m := 1048576) (by omega) (by omega) (batchEnc c.2.2)
  have r := bRead_there h5 []
  rw [List.append_nil] at r
  have hd : (cEnc c).drop (venc c.1.toNat).length = venc c.2.1.toNat ++ batchEnc c.2.2 := by rw [cEnc, List.drop_left]
  have hd2 : (cEnc c).drop ((venc c.1.toNat).length + (venc c.2.1.toNat).length) = batchEnc c.2.2 := by rw [← List.drop_drop, hd, List.drop_left]
  have hp : cPart (cEnc c) = c := by
    unfold cPart
    rw [show sX (cEnc c) 1048576 = c.1.toNat from a1, show sN (cEnc c) 1048576 = _ from a2, hd, b1, b2, hd2, r]
    exact Prod.ext (by simp only; omega) (Prod.ext (by simp only; omega) rfl)
  unfold cDecode
  rw [hp, show sE (cEnc c) 1048576 = 0 from a3, show sN (cEnc c) 1048576 = _ from a2, hd, b2, b3, hd2, r]
  rw [if_pos ⟨rfl, rfl, rfl, by simp only [cEnc, List.length_append]; omega, h⟩]
theorem cDecode_back {B : Bytes} (h : (cDecode B).2 = 0) : cCheck (cDecode B).1 = 0 ∧ B = cEnc (cDecode B).1 := by
  unfold cDecode at h ⊢
  split at h
  · rename_i hh
    rw [if_pos hh]
    obtain ⟨h1, h2, h3, h4, h5⟩ := hh
    refine ⟨h5, ?_⟩
    have e1 := s_back h1
    have e2 := s_back h2
    generalize hr : bRead (B.drop (sN B 1048576 + sN (B.drop (sN B 1048576)) 1048576)) = p at *
    obtain ⟨l, n, f⟩ := p
    dsimp only at h3 h4
    subst h3
    obtain ⟨k1, k2, k3, k4⟩ := bRead_back hr
    have hl : (B.drop (sN B 1048576 + sN (B.drop (sN B 1048576)) 1048576)).length ≤ n.toNat := by simp only [List.length_drop]; omega
    rw [List.drop_of_length_le hl, List.append_nil, ← List.drop_drop] at k4
    unfold cEnc cPart
    rw [hr]
    simp only [Int.toNat_natCast]
    rw [← k4, ← e2, ← e1]
  · cases h
theorem cEncode_bad {c : DCommit} (h : ¬ cCheck c = 0) : cEncode c = ([], cCheck c) := if_neg h
theorem cEncode_good {c : DCommit} (h : ¬ ¬ cCheck c = 0) : cEncode c = bAppend (venc c.1.toNat ++ venc c.2.1.toNat) c.2.2 := by
  have h' := Decidable.not_not.1 h
  unfold cEncode bAppend cEnc
  rw [if_pos h', if_pos (cCheck_zero h').2.2.2.2, List.append_assoc]
theorem cEncode_len (c : DCommit) : (cEncode c).1.length ≤ 700 := by
  by_cases h : cCheck c = 0
  · obtain ⟨h1, h2, h3, h4, h5⟩ := cCheck_zero h
    rw [cEncode_good (fun hn => hn h)]
    have := bAppend_len (venc c.1.toNat ++ venc c.2.1.toNat) c.2.2
    have := venc_len (x := c.1.toNat) (by omega)
    have := venc_len (x := c.2.1.toNat) (by omega)
    simp only [List.length_append] at *; omega
  · rw [cEncode_bad h]; simp
theorem cDecode_fits (B : Bytes) : (cDecode B).1.2.2.length ≤ 8 ∧ ∀ o ∈ (cDecode B).1.2.2, o.2.1.length ≤ 16 := by
  unfold cDecode
  split
  · exact ⟨(bRead_fits _).1, bRead_keys _⟩
  · exact ⟨by decide, fun o h => by cases h⟩
theorem cDecode_e1 {B : Bytes} (h : ¬ sE B 1048576 = 0) : cDecode B = (zC, 5) := if_neg fun hh => h hh.1
theorem cDecode_e2 {B : Bytes} (h : ¬ sE (B.drop (sN B 1048576)) 1048576 = 0) : cDecode B = (zC, 5) := if_neg fun hh => h hh.2.1
theorem cDecode_e3 {B : Bytes} (h : ¬ (bRead (B.drop (sN B 1048576 + sN (B.drop (sN B 1048576)) 1048576))).2.2 = 0) : cDecode B = (zC, 5) := if_neg fun hh => h hh.2.2.1
theorem cDecode_e4 {B : Bytes} (h : ¬ ((sN B 1048576 : Int) + (sN (B.drop (sN B 1048576)) 1048576 : Int) + (bRead (B.drop (sN B 1048576 + sN (B.drop (sN B 1048576)) 1048576))).2.1 = B.length)) : cDecode B = (zC, 5) := if_neg fun hh => h hh.2.2.2.1
theorem cDecode_e5 {B : Bytes} (h : ¬ cCheck (cPart B) = 0) : cDecode B = (zC, 5) := if_neg fun hh => h hh.2.2.2.2
theorem cDecode_ok {B : Bytes} (h1 : ¬ ¬ sE B 1048576 = 0) (h2 : ¬ ¬ sE (B.drop (sN B 1048576)) 1048576 = 0) (h3 : ¬ ¬ (bRead (B.drop (sN B 1048576 + sN (B.drop (sN B 1048576)) 1048576))).2.2 = 0)
    (h4 : ¬ ¬ ((sN B 1048576 : Int) + (sN (B.drop (sN B 1048576)) 1048576 : Int) + (bRead (B.drop (sN B 1048576 + sN (B.drop (sN B 1048576)) 1048576))).2.1 = B.length)) (h5 : ¬ ¬ cCheck (cPart B) = 0) : cDecode B = (cPart B, 0) :=
  if_pos ⟨Decidable.not_not.1 h1, Decidable.not_not.1 h2, Decidable.not_not.1 h3, Decidable.not_not.1 h4, Decidable.not_not.1 h5⟩
end
section
set_option linter.unusedVariables false
theorem Rd.relen {e : Ty} {m : Mem} {A : Option Addr} {l k c : Nat} {xs : List e.Den} (h : Rd (.sl e) m [.slice A l c] xs) (hk : k = xs.length) : Rd (.sl e) m [.slice A k c] xs := by
  obtain ⟨A', c', h1, h2⟩ := h
  simp only [List.cons.injEq, Value.slice.injEq, and_true] at h1
  obtain ⟨rfl, _, rfl⟩ := h1
  exact ⟨_, _, by rw [hk], h2⟩
theorem OwAll.map {α β : Type} {R : Mem → List Value → α → Prop} {S : Mem → List Value → β → Prop} (f : α → β) (hf : ∀ m c x, R m c x → S m c (f x)) : ∀ {xs : List α} {m : Mem} {cs : List Value}, OwAll R m cs xs → OwAll S m cs (xs.map f)
  | [], _, _, h => h
  | _ :: _, _, _, ⟨c1, c2, m1, m2, h1, h2, h3, h4, h5, h6⟩ => ⟨c1, c2, m1, m2, h1, h2, h3, h4, hf _ _ _ h5, h6.map f hf⟩
theorem VO.apart {P : Program} {n : Nat} {w0 : World} {σ : Env} {Ω : Ctx} {ops : Array Oper} {K : Env → Ctx → Prop} {r : List Oper} (ids : List Nat) {l : List Mem} (hg : cgets Ω ids = some l) (h : l.Pairwise mdj → VO P n w0 ops r σ Ω K) : VO P n w0 ops r σ Ω K :=
  fun Q hQ a W he hi => h (hi.gets hg).1 Q hQ a W he hi
theorem VD.apart {P : Program} {n : Nat} {w0 : World} {σ : Env} {Ω ΩS : Ctx} {ops : Array Oper} {K : Env → Ctx → Prop} {t : Nat} {ss : List (Nat × Bool)} (ids : List Nat) {l : List Mem} (hg : cgets Ω ids = some l) (h : l.Pairwise mdj → VD P n w0 ops ΩS t ss σ Ω K) : VD P n w0 ops ΩS t ss σ Ω K :=
  fun Q hn hQ listed a W he hi => h (hi.gets hg).1 Q hn hQ listed a W he hi
section
variable {P : Program} {n : Nat} {w0 : World} {σ : Env} {Ω : Ctx} {ops : Array Oper} {K : Env → Ctx → Prop}
theorem execOp_val {ρ : Operand → Value} {dst : Option Tmp} {x : Operand} {f : FuncId} {caps : Array Value} {xs : Array Operand} {ats : Array TypeId} {ty : TypeId} {pos : String} {after : Array Edge} {guard : Option (Nat × Bool)} (hx : ρ x = .func (.func f) #[] caps) :
    execOp ρ { dst, op := .call { callee := .value x, args := xs, argTypes := ats }, type := ty, pos, after, guard } = callFunc f (#[] ++ xs.map ρ ++ caps) := by
  show (do let d ← Deferred.ofValue (ρ x) (xs.map ρ); invoke d.target d.args) = _
  rw [hx]; rfl
theorem Yld.mkf {d : Nat} {f : FuncId} {xs : List Operand} {caps : List Value} {ty : TypeId} {pos : String} {af : Array Edge} {gd : Option (Nat × Bool)} (ha : evs σ xs = some caps) : Yld P n w0 σ Ω ⟨some d, .makeFunc (.func f) #[] xs.toArray, ty, pos, af, gd⟩ (.func (.func f) #[] caps.toArray) := fun a W he _ => by
  simp [execOp, Instr.makeFunc, he.evals ha]
theorem Stp.callV {x : Operand} {f : FuncId} {caps : List Value} {xs : List Operand} {ats : Array TypeId} {ty : TypeId} {pos : String} {af : Array Edge} {dst : Option Tmp} {gd : Option (Nat × Bool)} {vs : List Value} {Post : Value → Mem → Prop}
    (i : Nat) {m : Mem} (hx : ev σ x = some (.func (.func f) #[] caps.toArray)) (hf : fnOk P f = true) (ha : evs σ xs = some vs) (hm : cget Ω i = some m) (hc : ∀ W, Inv w0 Ω W → CallR P f (vs ++ caps) W m Post) :
    Stp P n w0 σ Ω ⟨dst, .call { callee := .value x, args := xs.toArray, argTypes := ats }, ty, pos, af, gd⟩ (fun v Ω' => ∃ m', Post v m' ∧ Ω' = cset Ω i m') := fun a W he hi K Q hK => by
  unfold Oper.wp
  rw [execOp_val (he.eval hx)]
  rw [run_call_of_ok hf]
  have : #[] ++ Array.map a.eval xs.toArray ++ caps.toArray = (vs ++ caps).toArray := by
    rw [← he.evals ha]; simp
  rw [this, Oper.upon_enter]
  refine Calls.mono (hc W hi) fun e W' ⟨v, m', h1, h2, h3⟩ => ?_
  subst h1
  exact hK v _ W' ⟨m', h2, rfl⟩ (hi.upd hm h3)
theorem Stp.callVN {x : Operand} {f : FuncId} {caps : List Value} {xs : List Operand} {ats : Array TypeId} {ty : TypeId} {pos : String} {af : Array Edge} {dst : Option Tmp} {gd : Option (Nat × Bool)} {vs : List Value} {Post : Value → Mem → Prop}
    (i : Nat) (hx : ev σ x = some (.func (.func f) #[] caps.toArray)) (hf : fnOk P f = true) (ha : evs σ xs = some vs) (hc : ∀ W, Inv w0 Ω W → CallR P f (vs ++ caps) W mnil Post) :
    Stp P n w0 σ Ω ⟨dst, .call { callee := .value x, args := xs.toArray, argTypes := ats }, ty, pos, af, gd⟩ (fun v Ω' => ∃ m', Post v m' ∧ Ω' = (i, m') :: Ω) := fun a W he hi K Q hK => by
  unfold Oper.wp
  rw [execOp_val (he.eval hx)]
  rw [run_call_of_ok hf]
  have : #[] ++ Array.map a.eval xs.toArray ++ caps.toArray = (vs ++ caps).toArray := by
    rw [← he.evals ha]; simp
  rw [this, Oper.upon_enter]
  refine Calls.mono (hc W hi) fun e W' ⟨v, m', h1, h2, h3⟩ => ?_
  subst h1
  exact hK v _ W' ⟨m', h2, rfl⟩ (hi.updN i h3)
theorem VO.callV {r : List Oper} {d : Nat} {x : Operand} {f : FuncId} {caps : List Value} {xs : List Operand} {ats : Array TypeId} {ty : TypeId} {pos : String} {af : Array Edge} {vs : List Value} {Post : Value → Mem → Prop}
    (i : Nat) {m : Mem} (hd : Nat.blt d n = true) (hx : ev σ x = some (.func (.func f) #[] caps.toArray)) (hf : fnOk P f = true) (ha : evs σ xs = some vs) (hm : cget Ω i = some m) (hc : ∀ W, Inv w0 Ω W → CallR P f (vs ++ caps) W m Post)
    (h : ∀ v m', Post v m' → VO P n w0 ops r ((d, v) :: σ) (cset Ω i m') K) :
    VO P n w0 ops (⟨some d, .call { callee := .value x, args := xs.toArray, argTypes := ats }, ty, pos, af, none⟩ :: r) σ Ω K :=
  VO.s hd (Stp.callV i hx hf ha hm hc) fun v _ ⟨m', hp, hΩ⟩ => hΩ ▸ h v m' hp
theorem VO.callVN {r : List Oper} {d : Nat} {x : Operand} {f : FuncId} {caps : List Value} {xs : List Operand} {ats : Array TypeId} {ty : TypeId} {pos : String} {af : Array Edge} {vs : List Value} {Post : Value → Mem → Prop}
    (i : Nat) (hd : Nat.blt d n = true) (hx : ev σ x = some (.func (.func f) #[] caps.toArray)) (hf : fnOk P f = true) (ha : evs σ xs = some vs) (hc : ∀ W, Inv w0 Ω W → CallR P f (vs ++ caps) W mnil Post)
    (h : ∀ v m', Post v m' → VO P n w0 ops r ((d, v) :: σ) ((i, m') :: Ω) K) :
    VO P n w0 ops (⟨some d, .call { callee := .value x, args := xs.toArray, argTypes := ats }, ty, pos, af, none⟩ :: r) σ Ω K :=
  VO.s hd (Stp.callVN i hx hf ha hc) fun v _ ⟨m', hp, hΩ⟩ => hΩ ▸ h v m' hp
end
theorem VD.gbsl {P : Program} {n : Nat} {w0 : World} {σ : Env} {Ω ΩS : Ctx} {ops : Array Oper} {t : Nat} {K : Env → Ctx → Prop} {ty : TypeId} {pos : String} {af : Array Edge} {i : Nat} {rr : List (Nat × Bool)} {dd : Nat} {t' e : TypeId} {s b len : Nat} {l : List (Nat × Operand)} {ps : List (Nat × Value)} {z cs : List Value} {jj : Nat} {b' : Bool} (j : Nat) (hd : Nat.blt dd n = true) (ho : ops[i]? = some ⟨some dd, .buildSlice t' len l.toArray, ty, pos, af, some (jj, b')⟩) (hg : gyes σ ops jj b')
    (hl : evp σ l = some ps) (ht : tsl P t' = some (e, s, b)) (hz : tz P e = some z)
    (hsmall : Nat.ble (len * s) 16777216 = true) (hb : bld (fun i => some (i * s, s)) ((List.range (len * s)).map fun j => z.toArray[j % z.toArray.size]!) ps = some cs) (hS : ∀ W, Inv w0 Ω W → Inv w0 ΩS W)
    (h : ∀ g, VD P n w0 ops ΩS t rr ((dd, .slice (some ⟨g, 0, none⟩) len len) :: σ) ((j, mone g (.cells cs.toArray e (0, 0))) :: Ω) K) : VD P n w0 ops ΩS t ((i, false) :: rr) σ Ω K :=
  VD.s (fun v => (dd, v) :: σ) ho (fun v _ he => he.put hd v) (.inr ⟨_, _, rfl, hg⟩) (Stp.bsl j hl ht hz hsmall hb) (fun _ _ ⟨_, _, hΩ⟩ W hW => hS W (by subst hΩ; exact hW.tl)) (fun _ _ ⟨g, hv, hΩ⟩ => hv ▸ hΩ ▸ h g)
abbrev Hd := Option Addr × Nat × Nat
def hv (h : Hd) : Value := .slice h.1 h.2.1 h.2.2
/-- two numbers and a list; two numbers and a list's header. -/
abbrev tC (e : Ty) : Ty := .pair (.int .i64) (.pair (.int .i64) (.sl e))
abbrev DH := Int × Int × Hd
/-- this one, but for where the ops are. -/
def Pc (e : Ty) (m : Mem) (h : DH) (x : (tC e).Den) : Prop := h.1 = x.1 ∧ h.2.1 = x.2.1 ∧ Rd (.sl e) m [hv h.2.2] x.2.2
inductive F2 {α β : Type} (R : α → β → Prop) : List α → List β → Prop
  | nil : F2 R [] []
  | cons {a : α} {b : β} {l : List α} {r : List β} (h : R a b) (t : F2 R l r) : F2 R (a :: l) (b :: r)
theorem F2.mono {α β : Type} {R S : α → β → Prop} {l : List α} {r : List β} (h : F2 R l r) (hs : ∀ a b, R a b → S a b) : F2 S l r := by
  induction h with
  | nil => exact .nil
  | cons h _ ih => exact .cons (hs _ _ h) ih
theorem F2.len {α β : Type} {R : α → β → Prop} {l : List α} {r : List β} (h : F2 R l r) : l.length = r.length := by
  induction h with
  | nil => rfl
  | cons _ _ ih => simp [ih]
theorem F2.get {α β : Type} {R : α → β → Prop} {l : List α} {r : List β} (h : F2 R l r) {i : Nat} {a : α} (ha : l[i]? = some a) : ∃ b, r[i]? = some b ∧ R a b := by
  induction h generalizing i with
  | nil => simp at ha
  | cons h _ ih =>
    cases i with
    | zero => simp at ha; subst ha; exact ⟨_, rfl, h⟩
    | succ i => simp at ha; simpa using ih ha
variable {e : Ty}
theorem Pc.mono {m m' : Mem} {h : DH} {x : (tC e).Den} (hp : Pc e m h x) (hm : mle m m') : Pc e m' h x := ⟨hp.1, hp.2.1, hp.2.2.mono hm⟩
theorem OwAll.len {α : Type} {R : Mem → List Value → α → Prop} {k : Nat} (hk : ∀ m c x, R m c x → c.length = k) : ∀ {xs : List α} {m : Mem} {cs : List Value}, OwAll R m cs xs → cs.length = xs.length * k
  | [], _, _, h => by rw [show _ = [] from h]; simp
  | _ :: r, _, _, ⟨c1, c2, m1, m2, h1, _, _, _, h5, h6⟩ => by
    rw [h1, List.length_append, hk _ _ _ h5, OwAll.len hk h6, List.length_cons, Nat.add_mul]; omega
end
section
set_option linter.unusedVariables false
set_option linter.unusedSimpArgs false
set_option maxRecDepth 4000
theorem fin0_cEncode_ok_ {P : Prop} (h : P := by first | omega | (simp only [List.length_append, List.length_nil, List.length_cons, List.length_take, List.length_drop] at *; omega) | (have h_ := cCheck_zero (Decidable.not_not.1 ‹¬ ¬ cCheck d0 = 0›); omega) | (have h_ := cCheck_zero (Decidable.not_not.1 ‹¬ ¬ cCheck d0 = 0›); simp only [List.length_append, List.length_nil, List.length_cons] at *; omega)) : P := h
theorem cEncode_ok_ (W : World) {v0 : List Value} {d0 : DCommit} (h0 : Rd TCommit (wm W) v0 d0) : CallR Try.prog 58 [.agg v0.toArray] W (mnil) (fun v m' => ∃ (s0 : Value), v = .tuple #[s0, .int .i64 ((cEncode d0).2)] ∧ Ow (.sl .byte) m' [s0] ((cEncode d0).1)) := by
  obtain ⟨p0_A2, p0_c2, rfl, p0_0, p0_1, p0_2⟩ := open_Commit (x0 := d0.1) (x1 := d0.2.1) (x2 := d0.2.2) h0
  simp only [inK] at p0_0
  simp only [inK] at p0_1
  have p0_r2 := Rd.room p0_2
  refine CallR.ofA (n := 23) Try.func58 rfl rfl rfl ?_
  refine VC.rs ?_
  refine VO.box (cs := [Value.int .i64 (d0.1), Value.int .i64 (d0.2.1), Value.slice p0_A2 (d0.2.2.length) (p0_c2)]) 102 rfl rfl rfl (fun g1 => ?_)
  refine VO.as ?_
  refine VO.as ?_
  refine VO.k4 0 1 2 3 ?_
  refine VC.seq ?_
  refine VC.rs ?_
  refine VO.y rfl (.ldA 102 rfl tk52 rfl (cellsAt_one rfl rfl)) ?_
  refine VO.callN 103 rfl fnOk50 rfl (fun W hW => cCheck_ok_ W (Rd.mono h0 (hW.at (i := 0) rfl))) (fun v3 m3 hv3 => ?_)
  subst hv3
  have hfa4 := cCheck_range d0
  refine VO.as ?_
  refine VO.k5 0 1 2 3 4 ?_
  refine VC.rs ?_
  refine VO.mv ?_
  refine VO.y rfl (.neq rfl rfl) ?_
  refine VO.keep [102, 0] [(102, mone g1 (.cells [Value.int .i64 (d0.1), Value.int .i64 (d0.2.1), Value.slice p0_A2 (d0.2.2.length) (p0_c2)].toArray 52 (0, 0))), (0, wm W)] (by kernel_rfl) ?_
  refine VO.k6 0 1 2 3 4 8 ?_
  refine VC.cond rfl (fun hc5 => ?_) (fun hc5 => ?_)
  · -- T
    refine VC.rs ?_
    refine VO.mv ?_
    refine VO.as ?_
    refine VO.as ?_
    refine VO.k6 0 1 2 3 4 8 ?_
    refine VC.ret ?_
    refine outR ?_
    refine ⟨_, _, res_run (rs := [.tmp 2, .tmp 3]) rfl (.tmp rfl (.tmp rfl .nil)), fun W_ hI => out_of (l := []) hI [] rfl rfl (mle_refl _) (fun hS_ => ?_)⟩
    dsimp only [packV]
    have he0 : ((cEncode d0).1 : Ty.Den (.sl .byte)) = [] := by first | rfl | (first | (rw [cEncode_bad (by assumption)]; done) | (rw [cEncode_good (by assumption)]; done))
    refine ⟨Value.slice none (0) (0), ?_, ?_⟩
    rotate_left
    · rw [he0]; exact (Ow.nil _ _)
    all_goals (first | rfl | (first | (rw [cEncode_bad (by assumption)] <;> rfl) | (rw [cEncode_good (by assumption)] <;> rfl)))
  · -- F
    refine VC.skip ?_
    refine outN ?_
    refine VC.seq ?_
    refine VC.regD _ 13 [(0, true), (1, true), (2, true), (4, true), (5, true), (6, true), (8, true), (9, true), (3, false), (7, false), (10, false), (11, true), (12, true)] follows (by kernel_rfl) (fun _ h => h.sub [102, 0]) ?_
    refine VD.y rfl rfl (.inl rfl) (.fa rfl tst52 rfl) ?_
    refine VD.y rfl rfl (.inl rfl) (.ld1 102 rfl tk3 rfl (cellsAt_one rfl rfl)) ?_
    refine VD.y rfl rfl (.inl rfl) (.cvI (c := ((d0.1).toNat : Int)) rfl ⟨_, Try.underlying3⟩ Try.underlying112 (by rw [IntWalk.u64_in _ (by exact fin0_cEncode_ok_)]; first | omega | (exact fin0_cEncode_ok_))) ?_
    refine VD.y rfl rfl (.inl rfl) (.fa rfl tst52 rfl) ?_
    refine VD.y rfl rfl (.inl rfl) (.ld1 102 rfl tk3 rfl (cellsAt_one rfl rfl)) ?_
    refine VD.y rfl rfl (.inl rfl) (.cvI (c := ((d0.2.1).toNat : Int)) rfl ⟨_, Try.underlying3⟩ Try.underlying112 (by rw [IntWalk.u64_in _ (by exact fin0_cEncode_ok_)]; first | omega | (exact fin0_cEncode_ok_))) ?_
    refine VD.y rfl rfl (.inl rfl) (.fa rfl tst52 rfl) ?_
    refine VD.y rfl rfl (.inl rfl) (.ld1 102 rfl tk22 rfl (cellsAt_one rfl rfl)) ?_
    refine VD.callN 106 rfl rfl (.inl rfl) fnOk97 rfl (fun _ h => h.sub [102, 0]) (fun W hW => vAppend_ok W (Rd.nil _ _ none 0 (Nat.zero_le _)) ((d0.1).toNat) (by exact fin0_cEncode_ok_) (by exact fin0_cEncode_ok_)) (fun v6 m6 hv6 => ?_)
    obtain ⟨s6_0, rfl, f6_0⟩ := hv6
    have hfa7 := venc_len (x := ((d0.1).toNat)) (by first | omega | exact or64 (by assumption) _)
    simp only [List.nil_append] at f6_0
    obtain ⟨A6_0, c6_0, eq6_0, l6_0, k6_0⟩ := f6_0.slice
    subst eq6_0
    simp only [maxLen] at k6_0
    refine VD.callN 108 rfl rfl (.inl rfl) fnOk97 rfl (fun _ h => h.sub [102, 0]) (fun W hW => vAppend_ok W (OwnL.rd (Ow.ownl f6_0 rfl mnil) (hW.at (i := 106) rfl) (mle_nil _)) ((d0.2.1).toNat) (by exact fin0_cEncode_ok_) (by exact fin0_cEncode_ok_)) (fun v8 m8 hv8 => ?_)
    obtain ⟨s8_0, rfl, f8_0⟩ := hv8
    have hfa9 := venc_len (x := ((d0.2.1).toNat)) (by first | omega | exact or64 (by assumption) _)
    obtain ⟨A8_0, c8_0, eq8_0, l8_0, k8_0⟩ := f8_0.slice
    subst eq8_0
    simp only [maxLen] at k8_0
    refine VD.callN 110 rfl rfl (.inl rfl) fnOk30 rfl (fun _ h => h.sub [102, 0]) (fun W hW => bAppend_ok W (OwnL.rd (Ow.ownl f8_0 rfl mnil) (hW.at (i := 108) rfl) (mle_nil _)) (Rd.mono p0_2 (hW.at (i := 0) rfl)) (by exact fin0_cEncode_ok_)) (fun v10 m10 hv10 => ?_)
    obtain ⟨s10_0, rfl, f10_0⟩ := hv10
    have hfa11 := bAppend_len ((venc ((d0.1).toNat)) ++ venc ((d0.2.1).toNat)) d0.2.2
    obtain ⟨A10_0, c10_0, eq10_0, l10_0, k10_0⟩ := f10_0.slice
    subst eq10_0
    simp only [maxLen] at k10_0
    refine VD.y rfl rfl (.inl rfl) (.ext rfl rfl) ?_
    refine VD.y rfl rfl (.inl rfl) (.ext rfl rfl) ?_
    refine VD.nil rfl ?_ rfl
    refine VO.as ?_
    refine VO.as ?_
    refine VO.k6 0 1 2 3 4 8 ?_
    refine outN ?_
    refine VC.ret ?_
    refine ⟨_, _, res_run (rs := [.tmp 2, .tmp 3]) rfl (.tmp rfl (.tmp rfl .nil)), fun W_ hI => out_of (l := [m10]) hI [110] rfl rfl (mle_refl _) (fun hS_ => ?_)⟩
    dsimp only [packV]
    have he0 : ((cEncode d0).1 : Ty.Den (.sl .byte)) = (bAppend ((venc ((d0.1).toNat)) ++ venc ((d0.2.1).toNat)) d0.2.2).1 := by first | rfl | (first | (rw [cEncode_bad (by assumption)]; done) | (rw [cEncode_good (by assumption)]; done))
    refine ⟨Value.slice A10_0 (((bAppend ((venc ((d0.1).toNat)) ++ venc ((d0.2.1).toNat)) d0.2.2).1).length) (c10_0), ?_, ?_⟩
    rotate_left
    · rw [he0]; exact (Ow.up (OwnL.ow (Ow.ownl f10_0 rfl mnil) rfl) (hS_.1 _ (.head _)))
    all_goals (first | rfl | (first | (rw [cEncode_bad (by assumption)] <;> rfl) | (rw [cEncode_good (by assumption)] <;> rfl)))
theorem fin0_cDecode_ok_ {P : Prop} (h : P := by first | (rw [cDecode_e1 (by assumption)] <;> rfl) | (rw [cDecode_e2 (by assumption)] <;> rfl) | (rw [cDecode_e3 (by assumption)] <;> rfl) | (rw [cDecode_e4 (by assumption)] <;> rfl) | (rw [cDecode_e5 (by assumption)] <;> rfl) | (rw [cDecode_ok (by assumption) (by assumption) (by assumption) (by assumption) (by assumption)] <;> rfl)) : P := h
theorem cDecode_ok_ (W : World) {v0 : Value} {d0 : List UInt8} (h0 : Rd (.sl .byte) (wm W) [v0] d0) : CallR Try.prog 46 [v0] W (mnil) (fun v m' => ∃ (s0 : List Value), v = .tuple #[.agg s0.toArray, .int .i64 ((cDecode d0).2)] ∧ Ow TCommit m' s0 ((cDecode d0).1)) := by
  obtain ⟨A0, c0, rfl, l0, k0⟩ := h0.slice
  simp only [maxLen] at k0
  refine CallR.ofA (n := 65) Try.func46 rfl rfl rfl ?_
  refine VC.rs ?_
  refine VO.alloc 102 rfl tz52 (fun g1 => ?_)
  refine VO.as ?_
  refine VO.k3 0 2 3 ?_
  refine VC.rs ?_
  refine VO.mv ?_
  refine VO.callN 103 rfl fnOk106 rfl (fun W hW => vSmall_ok W (Rd.mono h0 (hW.at (i := 0) rfl)) 1048576 bdk) (fun v3 m3 hv3 => ?_)
  subst hv3
  have hfa4 := s_bounds d0 1048576 (by omega)
  refine VO.mv ?_
  refine VO.y rfl (.ext rfl rfl) ?_
  refine VO.y rfl (.ext rfl rfl) ?_
  refine VO.y rfl (.ext rfl rfl) ?_
  refine VO.as ?_
  refine VO.as ?_
  refine VO.as ?_
  refine VO.k6 0 2 3 4 5 6 ?_
  refine VC.seq ?_
  refine VC.rs ?_
  refine VO.mv ?_
  refine VO.y rfl (.neq rfl rfl) ?_
  refine VO.keep [102, 0] [(102, mone g1 (.cells [Value.int .i64 (0), Value.int .i64 (0), Value.slice none (0) (0)].toArray 52 (0, 0))), (0, wm W)] (by kernel_rfl) ?_
  refine VO.k7 0 2 3 4 5 6 19 ?_
  refine VC.cond rfl (fun hc5 => ?_) (fun hc5 => ?_)
  · -- T
    refine VC.rs ?_
    refine VO.y rfl (.bst (cs := [Value.int .i64 (0), Value.int .i64 (0), Value.slice none (0) (0)]) rfl tst52 tz52 rfl) ?_
    refine VO.store (k := 3) (c' := [Value.int .i64 (0), Value.int .i64 (0), Value.slice none (0) (0)]) 102 rfl rfl (.inl tk52) rfl rfl rfl rfl rfl ?_
    refine VO.as ?_
    refine VO.k7 0 2 3 4 5 6 19 ?_
    refine VC.ret ?_
    refine outR ?_
    refine ⟨_, _, res_run (rs := [.cell 2 52, .tmp 3]) rfl (.agg 102 rfl tk52 rfl ⟨_, _, _, mone_self _ _, Nat.le_of_ble_eq_true rfl, rfl⟩ (.tmp rfl .nil)), fun W_ hI => out_of (l := []) hI [] rfl rfl (mle_refl _) (fun hS_ => ?_)⟩
    dsimp only [packV]
    have he0 : ((cDecode d0).1 : Ty.Den TCommit) = (0, 0, []) := by first | rfl | (exact fin0_cDecode_ok_)
    refine ⟨[Value.int .i64 (0), Value.int .i64 (0), Value.slice none (0) (0)], ?_, ?_⟩
    rotate_left
    · rw [he0]; exact (mkO_Commit 0 0 [] (Seps.nilAt 0 hS_) bdk bdk (Ow.nil _ _))
    all_goals (first | rfl | (exact fin0_cDecode_ok_))
  · -- F
    refine VC.skip ?_
    refine outN ?_
    refine VC.rs ?_
    refine VO.mv ?_
    refine VO.mv ?_
    obtain ⟨A6, hA6, hs6⟩ := h0.drop 1 (sN d0 1048576) rfl bd
    refine VO.y rfl (.slLI (sN d0 1048576) A6 rfl rfl tsl23 rfl hA6 bd) ?_
    refine VO.callN 107 rfl fnOk106 rfl (fun W hW => vSmall_ok W (Rd.mono hs6 (hW.at (i := 0) rfl)) 1048576 bdk) (fun v7 m7 hv7 => ?_)
    subst hv7
    have hfa8 := s_bounds (d0.drop (sN d0 1048576)) 1048576 (by omega)
    refine VO.mv ?_
    refine VO.y rfl (.ext rfl rfl) ?_
    refine VO.y rfl (.ext rfl rfl) ?_
    refine VO.y rfl (.ext rfl rfl) ?_
    refine VO.as ?_
    refine VO.as ?_
    refine VO.as ?_
    refine VO.k9 0 2 3 4 5 6 7 8 19 ?_
    refine VC.seq ?_
    refine VC.rs ?_
    refine VO.mv ?_
    refine VO.y rfl (.neq rfl rfl) ?_
    refine VO.k10 0 2 3 4 5 6 7 8 19 30 ?_
    refine VC.cond rfl (fun hc9 => ?_) (fun hc9 => ?_)
    · -- FT
      refine VC.rs ?_
      refine VO.y rfl (.bst (cs := [Value.int .i64 (0), Value.int .i64 (0), Value.slice none (0) (0)]) rfl tst52 tz52 rfl) ?_
      refine VO.store (k := 3) (c' := [Value.int .i64 (0), Value.int .i64 (0), Value.slice none (0) (0)]) 102 rfl rfl (.inl tk52) rfl rfl rfl rfl rfl ?_
      refine VO.as ?_
      refine VO.keep [102, 0] [(102, mone g1 (.cells [Value.int .i64 (0), Value.int .i64 (0), Value.slice none (0) (0)].toArray 52 (0, 0))), (0, wm W)] (by kernel_rfl) ?_
      refine VO.k10 0 2 3 4 5 6 7 8 19 30 ?_
      refine VC.ret ?_
      refine outR ?_
      refine ⟨_, _, res_run (rs := [.cell 2 52, .tmp 3]) rfl (.agg 102 rfl tk52 rfl ⟨_, _, _, mone_self _ _, Nat.le_of_ble_eq_true rfl, rfl⟩ (.tmp rfl .nil)), fun W_ hI => out_of (l := []) hI [] rfl rfl (mle_refl _) (fun hS_ => ?_)⟩
      dsimp only [packV]
      have he0 : ((cDecode d0).1 : Ty.Den TCommit) = (0, 0, []) := by first | rfl | (exact fin0_cDecode_ok_)
      refine ⟨[Value.int .i64 (0), Value.int .i64 (0), Value.slice none (0) (0)], ?_, ?_⟩
      rotate_left
      · rw [he0]; exact (mkO_Commit 0 0 [] (Seps.nilAt 0 hS_) bdk bdk (Ow.nil _ _))
      all_goals (first | rfl | (exact fin0_cDecode_ok_))
    · -- FF
      refine VC.skip ?_
      refine outN ?_
      refine VC.rs ?_
      refine VO.mv ?_
      refine VO.mv ?_
      refine VO.mv ?_
      refine VO.y rfl (.add (c := ((sN d0 1048576 + (sN (d0.drop (sN d0 1048576)) 1048576) : Nat) : Int)) rfl rfl (by omega) ⟨bd, bd⟩) ?_
      obtain ⟨A10, hA10, hs10⟩ := h0.drop 1 (sN d0 1048576 + (sN (d0.drop (sN d0 1048576)) 1048576)) rfl bd
      refine VO.y rfl (.slLI (sN d0 1048576 + (sN (d0.drop (sN d0 1048576)) 1048576)) A10 rfl rfl tsl23 rfl hA10 bd) ?_
      refine VO.callN 111 rfl fnOk24 rfl (fun W hW => bRead_ok W (Rd.mono hs10 (hW.at (i := 0) rfl))) (fun v11 m11 hv11 => ?_)
      obtain ⟨s11_0, rfl, f11_0⟩ := hv11
      have hfa12 := bRead_fits (d0.drop (sN d0 1048576 + (sN (d0.drop (sN d0 1048576)) 1048576)))
      obtain ⟨A11_0, c11_0, eq11_0, l11_0, k11_0⟩ := f11_0.slice
      subst eq11_0
      simp only [maxLen] at k11_0
      refine VO.mv ?_
      refine VO.y rfl (.ext rfl rfl) ?_
      refine VO.y rfl (.ext rfl rfl) ?_
      refine VO.y rfl (.ext rfl rfl) ?_
      refine VO.as ?_
      refine VO.as ?_
      refine VO.as ?_
      refine VO.keep [111, 102, 0] [(111, m11), (102, mone g1 (.cells [Value.int .i64 (0), Value.int .i64 (0), Value.slice none (0) (0)].toArray 52 (0, 0))), (0, wm W)] (by kernel_rfl) ?_
      refine VO.k12 0 2 3 4 5 6 7 8 9 10 19 30 ?_
      refine VC.rs ?_
      refine VO.mv ?_
      refine VO.mv ?_
      refine VO.mv ?_
      refine VO.y rfl (.bst (cs := [Value.int .i64 (((sX d0 1048576 : Nat) : Int)), Value.int .i64 (((sX (d0.drop (sN d0 1048576)) 1048576 : Nat) : Int)), Value.slice A11_0 (((bRead (d0.drop (sN d0 1048576 + (sN (d0.drop (sN d0 1048576)) 1048576)))).1).length) (c11_0)]) rfl tst52 tz52 rfl) ?_
      refine VO.alloc 114 rfl tz52 (fun g13 => ?_)
      refine VO.store (k := 3) (c' := [Value.int .i64 (((sX d0 1048576 : Nat) : Int)), Value.int .i64 (((sX (d0.drop (sN d0 1048576)) 1048576 : Nat) : Int)), Value.slice A11_0 (((bRead (d0.drop (sN d0 1048576 + (sN (d0.drop (sN d0 1048576)) 1048576)))).1).length) (c11_0)]) 114 rfl rfl (.inl tk52) rfl rfl rfl rfl rfl ?_
      refine VO.k13 0 2 3 4 5 6 7 8 9 10 11 19 30 ?_
      refine VC.seq ?_
      refine VC.rs ?_
      refine VO.mv ?_
      refine VO.y rfl (.neq rfl rfl) ?_
      refine VO.mv ?_
      refine VO.dec (t := 48) rfl (fun hc15 => ?_) (fun hc15 => ?_)
      · -- FFT
        refine VO.gN ?_
        refine VO.gN ?_
        refine VO.gN ?_
        refine VO.gN ?_
        refine VO.gN ?_
        refine VO.gN ?_
        refine VO.gN ?_
        refine VO.gN ?_
        refine VO.y rfl (.pT rfl rfl) ?_
        refine VO.mv ?_
        refine VO.gN ?_
        refine VO.gN ?_
        refine VO.gN ?_
        refine VO.y rfl (.pT rfl rfl) ?_
        refine VO.k14 0 2 3 4 5 6 7 8 9 10 11 19 30 62 ?_
        refine VC.condT rfl ?_
        refine VC.rs ?_
        refine VO.y rfl (.bst (cs := [Value.int .i64 (0), Value.int .i64 (0), Value.slice none (0) (0)]) rfl tst52 tz52 rfl) ?_
        refine VO.store (k := 3) (c' := [Value.int .i64 (0), Value.int .i64 (0), Value.slice none (0) (0)]) 102 rfl rfl (.inl tk52) rfl rfl rfl rfl rfl ?_
        refine VO.as ?_
        refine VO.keep [114, 111, 102, 0] [(114, mone g13 (.cells [Value.int .i64 (((sX d0 1048576 : Nat) : Int)), Value.int .i64 (((sX (d0.drop (sN d0 1048576)) 1048576 : Nat) : Int)), Value.slice A11_0 (((bRead (d0.drop (sN d0 1048576 + (sN (d0.drop (sN d0 1048576)) 1048576)))).1).length) (c11_0)].toArray 52 (0, 0))), (111, m11), (102, mone g1 (.cells [Value.int .i64 (0), Value.int .i64 (0), Value.slice none (0) (0)].toArray 52 (0, 0))), (0, wm W)] (by kernel_rfl) ?_
        refine VO.k14 0 2 3 4 5 6 7 8 9 10 11 19 30 62 ?_
        refine VC.ret ?_
        refine outR ?_
        refine ⟨_, _, res_run (rs := [.cell 2 52, .tmp 3]) rfl (.agg 102 rfl tk52 rfl ⟨_, _, _, mone_self _ _, Nat.le_of_ble_eq_true rfl, rfl⟩ (.tmp rfl .nil)), fun W_ hI => out_of (l := []) hI [] rfl rfl (mle_refl _) (fun hS_ => ?_)⟩
        dsimp only [packV]
        have he0 : ((cDecode d0).1 : Ty.Den TCommit) = (0, 0, []) := by first | rfl | (exact fin0_cDecode_ok_)
        refine ⟨[Value.int .i64 (0), Value.int .i64 (0), Value.slice none (0) (0)], ?_, ?_⟩
        rotate_left
        · rw [he0]; exact (mkO_Commit 0 0 [] (Seps.nilAt 0 hS_) bdk bdk (Ow.nil _ _))
        all_goals (first | rfl | (exact fin0_cDecode_ok_))
      · -- FFF
        refine VO.gy rfl ⟨_, rfl, rfl⟩ (.mv rfl) ?_
        refine VO.gy rfl ⟨_, rfl, rfl⟩ (.mv rfl) ?_
        refine VO.gy rfl ⟨_, rfl, rfl⟩ (.add (c := ((sN d0 1048576 + (sN (d0.drop (sN d0 1048576)) 1048576) : Nat) : Int)) rfl rfl (by omega) ⟨bd, bd⟩) ?_
        refine VO.gy rfl ⟨_, rfl, rfl⟩ (.mv rfl) ?_
        refine VO.gy rfl ⟨_, rfl, rfl⟩ (.add rfl rfl rfl ⟨bd, bd⟩) ?_
        refine VO.gy rfl ⟨_, rfl, rfl⟩ (.mv rfl) ?_
        refine VO.gy rfl ⟨_, rfl, rfl⟩ (.lenS rfl tsl23) ?_
        refine VO.gy rfl ⟨_, rfl, rfl⟩ (.neq rfl rfl) ?_
        refine VO.y rfl (.pF rfl rfl) ?_
        refine VO.mv ?_
        refine VO.dec (t := 58) rfl (fun hc16 => ?_) (fun hc16 => ?_)
        · -- FFFT
          refine VO.gN ?_
          refine VO.gN ?_
          refine VO.gN ?_
          refine VO.y rfl (.pT rfl rfl) ?_
          refine VO.k14 0 2 3 4 5 6 7 8 9 10 11 19 30 62 ?_
          refine VC.condT rfl ?_
          refine VC.rs ?_
          refine VO.y rfl (.bst (cs := [Value.int .i64 (0), Value.int .i64 (0), Value.slice none (0) (0)]) rfl tst52 tz52 rfl) ?_
          refine VO.store (k := 3) (c' := [Value.int .i64 (0), Value.int .i64 (0), Value.slice none (0) (0)]) 102 rfl rfl (.inl tk52) rfl rfl rfl rfl rfl ?_
          refine VO.as ?_
          refine VO.keep [114, 111, 102, 0] [(114, mone g13 (.cells [Value.int .i64 (((sX d0 1048576 : Nat) : Int)), Value.int .i64 (((sX (d0.drop (sN d0 1048576)) 1048576 : Nat) : Int)), Value.slice A11_0 (((bRead (d0.drop (sN d0 1048576 + (sN (d0.drop (sN d0 1048576)) 1048576)))).1).length) (c11_0)].toArray 52 (0, 0))), (111, m11), (102, mone g1 (.cells [Value.int .i64 (0), Value.int .i64 (0), Value.slice none (0) (0)].toArray 52 (0, 0))), (0, wm W)] (by kernel_rfl) ?_
          refine VO.k14 0 2 3 4 5 6 7 8 9 10 11 19 30 62 ?_
          refine VC.ret ?_
          refine outR ?_
          refine ⟨_, _, res_run (rs := [.cell 2 52, .tmp 3]) rfl (.agg 102 rfl tk52 rfl ⟨_, _, _, mone_self _ _, Nat.le_of_ble_eq_true rfl, rfl⟩ (.tmp rfl .nil)), fun W_ hI => out_of (l := []) hI [] rfl rfl (mle_refl _) (fun hS_ => ?_)⟩
          dsimp only [packV]
          have he0 : ((cDecode d0).1 : Ty.Den TCommit) = (0, 0, []) := by first | rfl | (exact fin0_cDecode_ok_)
          refine ⟨[Value.int .i64 (0), Value.int .i64 (0), Value.slice none (0) (0)], ?_, ?_⟩
          rotate_left
          · rw [he0]; exact (mkO_Commit 0 0 [] (Seps.nilAt 0 hS_) bdk bdk (Ow.nil _ _))
          all_goals (first | rfl | (exact fin0_cDecode_ok_))
        · -- FFFF
          refine VO.gy rfl ⟨_, rfl, rfl⟩ (.ldA 114 rfl tk52 rfl (cellsAt_one rfl rfl)) ?_
          refine VO.gcallN 117 rfl ⟨_, rfl, rfl⟩ fnOk50 rfl (fun W hW => cCheck_ok_ W (mk_Commit (m := wm W) ((sX d0 1048576 : Nat) : Int) ((sX (d0.drop (sN d0 1048576)) 1048576 : Nat) : Int) ((bRead (d0.drop (sN d0 1048576 + (sN (d0.drop (sN d0 1048576)) 1048576)))).1) bdk bdk (OwnL.rd (Ow.ownl f11_0 rfl mnil) (hW.at (i := 111) rfl) (mle_nil _)))) (fun v17 m17 hv17 => ?_)
          try dsimp only at hv17
          subst hv17
          have hfa18 := cCheck_range (((sX d0 1048576 : Nat) : Int), ((sX (d0.drop (sN d0 1048576)) 1048576 : Nat) : Int), (bRead (d0.drop (sN d0 1048576 + (sN (d0.drop (sN d0 1048576)) 1048576)))).1)
          refine VO.gy rfl ⟨_, rfl, rfl⟩ (.neq rfl rfl) ?_
          refine VO.y rfl (.pF rfl rfl) ?_
          refine VO.k14 0 2 3 4 5 6 7 8 9 10 11 19 30 62 ?_
          refine VC.cond rfl (fun hc19 => ?_) (fun hc19 => ?_)
          · -- FFFFT
            refine VC.rs ?_
            refine VO.y rfl (.bst (cs := [Value.int .i64 (0), Value.int .i64 (0), Value.slice none (0) (0)]) rfl tst52 tz52 rfl) ?_
            refine VO.store (k := 3) (c' := [Value.int .i64 (0), Value.int .i64 (0), Value.slice none (0) (0)]) 102 rfl rfl (.inl tk52) rfl rfl rfl rfl rfl ?_
            refine VO.as ?_
            refine VO.keep [114, 111, 102, 0] [(114, mone g13 (.cells [Value.int .i64 (((sX d0 1048576 : Nat) : Int)), Value.int .i64 (((sX (d0.drop (sN d0 1048576)) 1048576 : Nat) : Int)), Value.slice A11_0 (((bRead (d0.drop (sN d0 1048576 + (sN (d0.drop (sN d0 1048576)) 1048576)))).1).length) (c11_0)].toArray 52 (0, 0))), (111, m11), (102, mone g1 (.cells [Value.int .i64 (0), Value.int .i64 (0), Value.slice none (0) (0)].toArray 52 (0, 0))), (0, wm W)] (by kernel_rfl) ?_
            refine VO.k14 0 2 3 4 5 6 7 8 9 10 11 19 30 62 ?_
            refine VC.ret ?_
            refine outR ?_
            refine ⟨_, _, res_run (rs := [.cell 2 52, .tmp 3]) rfl (.agg 102 rfl tk52 rfl ⟨_, _, _, mone_self _ _, Nat.le_of_ble_eq_true rfl, rfl⟩ (.tmp rfl .nil)), fun W_ hI => out_of (l := []) hI [] rfl rfl (mle_refl _) (fun hS_ => ?_)⟩
            dsimp only [packV]
            have he0 : ((cDecode d0).1 : Ty.Den TCommit) = (0, 0, []) := by first | rfl | (exact fin0_cDecode_ok_)
            refine ⟨[Value.int .i64 (0), Value.int .i64 (0), Value.slice none (0) (0)], ?_, ?_⟩
            rotate_left
            · rw [he0]; exact (mkO_Commit 0 0 [] (Seps.nilAt 0 hS_) bdk bdk (Ow.nil _ _))
            all_goals (first | rfl | (exact fin0_cDecode_ok_))
          · -- FFFFF
            refine VC.skip ?_
            refine outN ?_
            refine VC.rs ?_
            refine VO.y rfl (.ldA 114 rfl tk52 rfl (cellsAt_one rfl rfl)) ?_
            refine VO.store (k := 3) (c' := [Value.int .i64 (((sX d0 1048576 : Nat) : Int)), Value.int .i64 (((sX (d0.drop (sN d0 1048576)) 1048576 : Nat) : Int)), Value.slice A11_0 (((bRead (d0.drop (sN d0 1048576 + (sN (d0.drop (sN d0 1048576)) 1048576)))).1).length) (c11_0)]) 102 rfl rfl (.inl tk52) rfl rfl rfl rfl rfl ?_
            refine VO.as ?_
            refine VO.keep [114, 111, 102, 0] [(114, mone g13 (.cells [Value.int .i64 (((sX d0 1048576 : Nat) : Int)), Value.int .i64 (((sX (d0.drop (sN d0 1048576)) 1048576 : Nat) : Int)), Value.slice A11_0 (((bRead (d0.drop (sN d0 1048576 + (sN (d0.drop (sN d0 1048576)) 1048576)))).1).length) (c11_0)].toArray 52 (0, 0))), (111, m11), (102, mone g1 (.cells [Value.int .i64 (((sX d0 1048576 : Nat) : Int)), Value.int .i64 (((sX (d0.drop (sN d0 1048576)) 1048576 : Nat) : Int)), Value.slice A11_0 (((bRead (d0.drop (sN d0 1048576 + (sN (d0.drop (sN d0 1048576)) 1048576)))).1).length) (c11_0)].toArray 52 (0, 0))), (0, wm W)] (by kernel_rfl) ?_
            refine VO.k14 0 2 3 4 5 6 7 8 9 10 11 19 30 62 ?_
            refine VC.ret ?_
            refine ⟨_, _, res_run (rs := [.cell 2 52, .tmp 3]) rfl (.agg 102 rfl tk52 rfl ⟨_, _, _, mone_self _ _, Nat.le_of_ble_eq_true rfl, rfl⟩ (.tmp rfl .nil)), fun W_ hI => out_of (l := [m11]) hI [111] rfl rfl (mle_refl _) (fun hS_ => ?_)⟩
            dsimp only [packV]
            have he0 : ((cDecode d0).1 : Ty.Den TCommit) = (((sX d0 1048576 : Nat) : Int), ((sX (d0.drop (sN d0 1048576)) 1048576 : Nat) : Int), (bRead (d0.drop (sN d0 1048576 + (sN (d0.drop (sN d0 1048576)) 1048576)))).1) := by first | rfl | (exact fin0_cDecode_ok_)
            refine ⟨[Value.int .i64 (((sX d0 1048576 : Nat) : Int)), Value.int .i64 (((sX (d0.drop (sN d0 1048576)) 1048576 : Nat) : Int)), Value.slice A11_0 (((bRead (d0.drop (sN d0 1048576 + (sN (d0.drop (sN d0 1048576)) 1048576)))).1).length) (c11_0)], ?_, ?_⟩
            rotate_left
            · rw [he0]; exact (mkO_Commit ((sX d0 1048576 : Nat) : Int) ((sX (d0.drop (sN d0 1048576)) 1048576 : Nat) : Int) ((bRead (d0.drop (sN d0 1048576 + (sN (d0.drop (sN d0 1048576)) 1048576)))).1) hS_ bdk bdk (OwnL.ow (Ow.ownl f11_0 rfl mnil) rfl))
            all_goals (first | rfl | (exact fin0_cDecode_ok_))
end
section
set_option linter.unusedVariables false
set_option linter.unusedSimpArgs false
set_option maxRecDepth 4000
theorem fnOk46 : fnOk Try.prog 46 = true := by kernel_rfl
theorem fnOk58 : fnOk Try.prog 58 = true := by kernel_rfl
theorem fnOk43 : fnOk Try.prog 43 = true := by kernel_rfl
end
section
set_option linter.unusedVariables false
abbrev DHC := Int × Int × Hd
instance decHC : DecidableEq DHC := (@instDecidableEqProd _ _ inferInstance (@instDecidableEqProd _ _ inferInstance inferInstance))
end
section
set_option linter.unusedVariables false
set_option linter.unusedSimpArgs false
set_option maxRecDepth 4000
theorem example17_ok (W : World) : CallR Try.prog 66 [] W (mnil) (fun v m' => ∃ (s0 : Value), v = s0 ∧ Ow (.sl TCommit) m' [s0] (exC)) := by
  refine CallR.ofA (n := 19) Try.func66 rfl rfl rfl ?_
  refine VC.rs ?_
  refine VO.as ?_
  refine VO.k1 0 ?_
  refine VC.rs ?_
  refine VO.as ?_
  refine VO.k2 0 1 ?_
  refine VC.seq ?_
  refine VC.rs ?_
  refine VO.as ?_
  refine VO.keep [0] [(0, wm W)] (by kernel_rfl) ?_
  refine VO.k3 0 1 2 ?_
  refine VC.block ?_
  refine VC.inv ((101, mnil) :: _) (fun _ h => h.nilc 101) ?_
  refine VC.loop (G := Nat × (List DCommit) × (Option Addr) × Nat × Mem) (fun g => [(1, Value.slice (g.2.2.1) ((g.2.1).length) ((g.2.2.2.1))), (2, Value.int .i64 ((((g.1) : Nat) : Int))), (0, Value.slice none (0) (0))]) (fun g => [(101, (g.2.2.2.2)), (0, wm W)]) (fun g => (1 ≤ (g.1)) ∧ ((g.1) ≤ 7) ∧ ((g.2.1) = exC.take ((g.1) - 1)) ∧ (Ow (.sl TCommit) (g.2.2.2.2) [.slice (g.2.2.1) (g.2.1).length (g.2.2.2.1)] (g.2.1))) (fun g => 7 - (g.1)) (1, [], none, 0, mnil) (⟨by omega, by omega, by rfl, (Ow.nil TCommit mnil)⟩) ⟨⟨rfl, rfl, rfl, trivial⟩, fun _ h => h.sub [101, 0]⟩ ?_
  rintro ⟨i, l, l_A, l_c, l_m⟩ ⟨h1, h6, hl, h_l⟩
  replace h1 : 1 ≤ i := h1
  replace h6 : i ≤ 7 := h6
  replace hl : l = exC.take (i - 1) := hl
  replace h_l : Ow (.sl TCommit) l_m [.slice l_A l.length l_c] l := h_l
  show VC _ _ _ _ _ [(1, Value.slice l_A (l.length) (l_c)), (2, Value.int .i64 (((i : Nat) : Int))), (0, Value.slice none (0) (0))] [(101, l_m), (0, wm W)]
  have l_l : l.length ≤ l_c := by obtain ⟨_, _, he, hl, _⟩ := h_l.slice; simp only [Value.slice.injEq] at he; omega
  have k_l : l_c ≤ 9223372036854775807 := by obtain ⟨_, _, he, _, hl⟩ := h_l.slice; simp only [Value.slice.injEq, maxLen] at he hl; omega
  have hll : l.length ≤ 6 := by rw [hl]; simp [exC]; omega
  refine VC.seq ?_
  refine VC.rs ?_
  refine VO.mv ?_
  refine VO.y rfl (.leq rfl rfl) ?_
  refine VO.k4 0 1 2 5 ?_
  refine VC.cond rfl (fun hc2 => ?_) (fun hc2 => ?_)
  · -- T
    refine VC.skip ?_
    refine outN ?_
    refine VC.seq ?_
    refine VC.block ?_
    refine VC.rs ?_
    refine VO.as ?_
    refine VO.k5 0 1 2 3 5 ?_
    refine VC.seq ?_
    refine VC.rs ?_
    refine VO.mv ?_
    refine VO.y rfl (.eql rfl rfl) ?_
    refine VO.keep [101, 0] [(101, l_m), (0, wm W)] (by kernel_rfl) ?_
    refine VO.k6 0 1 2 3 5 9 ?_
    refine VC.cond rfl (fun hc3 => ?_) (fun hc3 => ?_)
    · -- TT
      refine VC.reg ?_
      refine VO.as ?_
      refine VO.k6 0 1 2 3 5 9 ?_
      refine outN ?_
      refine VC.reg ?_
      refine VO.mv ?_
      refine VO.mv ?_
      refine VO.mv ?_
      refine VO.y rfl (.bst (cs := [Value.bool false, str ([107]), str ([])]) rfl tst49 tz49 rfl) ?_
      refine VO.bsl (cs := [Value.bool false, str ([107]), str ([])]) 105 rfl rfl tsl22 tz49 rfl rfl (fun g4 => ?_)
      refine VO.y rfl (.bst (cs := [Value.int .i64 (3), Value.int .i64 (((i : Nat) : Int)), Value.slice (some ⟨g4, 0, none⟩) (1) (1)]) rfl tst52 tz52 rfl) ?_
      refine VO.bsl (cs := [Value.int .i64 (3), Value.int .i64 (((i : Nat) : Int)), Value.slice (some ⟨g4, 0, none⟩) (1) (1)]) 107 rfl rfl tsl61 tz52 rfl rfl (fun g6 => ?_)
      have ho9 : OwnL TOp (mone g4 (.cells [Value.bool false, str ([107]), str ([])].toArray 49 (0, 0))) mnil (Value.slice (some ⟨g4, 0, none⟩) (1) (1)) [(false, [107], [])] := OwnL.lit 1 (All2c.cons (c1 := [Value.bool false, str ([107]), str ([])]) (mk_Op (m := _) false ([107]) [] bdm bdm) All2c.nil) rfl rfl
      refine VO.appO (e := TCommit) 101 105 107 rfl rfl rfl tsl61 tz52 rfl rfl rfl rfl h_l (mkO_Commit 3 ((i : Nat) : Int) ([(false, [107], [])]) (Seps.one (mle_refl _)) bdk bdk (OwnL.ow ho9 rfl)) Try.underlying61 (cellsAt_one rfl rfl) bdm bd (by decide) (fun v8 m8 ho8 => ?_)
      obtain ⟨A8, c8, rfl, l8, k8⟩ := ho8.slice
      simp only [maxLen] at k8
      refine VO.as ?_
      refine VO.k6 0 1 2 3 5 9 ?_
      refine outBN ?_
      refine outN ?_
      refine VC.reg ?_
      refine VO.mv ?_
      refine VO.y rfl (.add (c := ((i + 1 : Nat) : Int)) rfl rfl (by omega) ⟨bd, bd⟩) ?_
      refine VO.as ?_
      refine VO.keep [101, 0] [(101, m8), (0, wm W)] (by kernel_rfl) ?_
      refine VO.k6 0 1 2 3 5 9 ?_
      exact outN ⟨⟨i + 1, l ++ [(3, ((i : Nat) : Int), [(false, [107], [])])], A8, c8, m8⟩, ⟨by omega, by omega, by exact exC_next hl h1 (by omega) (by first | (rw [if_pos (by omega)]; done) | (rw [if_neg (by omega)]; done)), ho8⟩, bd, ⟨⟨rfl, rfl, rfl, trivial⟩, fun _ h => Inv.sub h [101, 0]⟩⟩
    · -- TF
      refine VC.skip ?_
      refine outN ?_
      refine VC.reg ?_
      refine VO.mv ?_
      refine VO.mv ?_
      refine VO.mv ?_
      refine VO.y rfl (.bst (cs := [Value.bool false, str ([107]), str ([])]) rfl tst49 tz49 rfl) ?_
      refine VO.bsl (cs := [Value.bool false, str ([107]), str ([])]) 111 rfl rfl tsl22 tz49 rfl rfl (fun g10 => ?_)
      refine VO.y rfl (.bst (cs := [Value.int .i64 (1), Value.int .i64 (((i : Nat) : Int)), Value.slice (some ⟨g10, 0, none⟩) (1) (1)]) rfl tst52 tz52 rfl) ?_
      refine VO.bsl (cs := [Value.int .i64 (1), Value.int .i64 (((i : Nat) : Int)), Value.slice (some ⟨g10, 0, none⟩) (1) (1)]) 113 rfl rfl tsl61 tz52 rfl rfl (fun g12 => ?_)
      have ho15 : OwnL TOp (mone g10 (.cells [Value.bool false, str ([107]), str ([])].toArray 49 (0, 0))) mnil (Value.slice (some ⟨g10, 0, none⟩) (1) (1)) [(false, [107], [])] := OwnL.lit 1 (All2c.cons (c1 := [Value.bool false, str ([107]), str ([])]) (mk_Op (m := _) false ([107]) [] bdm bdm) All2c.nil) rfl rfl
      refine VO.appO (e := TCommit) 101 111 113 rfl rfl rfl tsl61 tz52 rfl rfl rfl rfl h_l (mkO_Commit 1 ((i : Nat) : Int) ([(false, [107], [])]) (Seps.one (mle_refl _)) bdk bdk (OwnL.ow ho15 rfl)) Try.underlying61 (cellsAt_one rfl rfl) bdm bd (by decide) (fun v14 m14 ho14 => ?_)
      obtain ⟨A14, c14, rfl, l14, k14⟩ := ho14.slice
      simp only [maxLen] at k14
      refine VO.as ?_
      refine VO.k6 0 1 2 3 5 9 ?_
      refine outBN ?_
      refine outN ?_
      refine VC.reg ?_
      refine VO.mv ?_
      refine VO.y rfl (.add (c := ((i + 1 : Nat) : Int)) rfl rfl (by omega) ⟨bd, bd⟩) ?_
      refine VO.as ?_
      refine VO.k6 0 1 2 3 5 9 ?_
      exact outN ⟨⟨i + 1, l ++ [(1, ((i : Nat) : Int), [(false, [107], [])])], A14, c14, m14⟩, ⟨by omega, by omega, by exact exC_next hl h1 (by omega) (by first | (rw [if_pos (by omega)]; done) | (rw [if_neg (by omega)]; done)), ho14⟩, bd, ⟨⟨rfl, rfl, rfl, trivial⟩, fun _ h => Inv.sub h [101, 0]⟩⟩
  · -- F
    refine VC.exit ?_
    refine outE ?_
    refine outE ?_
    refine outBB ?_
    refine outN ?_
    refine VC.rs ?_
    refine VO.mv ?_
    refine VO.as ?_
    refine VO.k4 0 1 2 5 ?_
    refine VC.ret ?_
    refine ⟨_, _, res_run (rs := [.tmp 0]) rfl (.tmp rfl .nil), fun W_ hI => out_of (l := [l_m]) hI [101] rfl rfl (mle_refl _) (fun hS_ => ?_)⟩
    dsimp only [packV]
    have he0 : (exC : Ty.Den (.sl TCommit)) = l := by first | rfl | (have : i = 7 := (by omega); subst this; exact hl.symm)
    refine ⟨Value.slice l_A (l.length) (l_c), ?_, ?_⟩
    rotate_left
    · rw [he0]; exact (Ow.up h_l (hS_.1 _ (.head _)))
    all_goals (first | rfl | (simp [*]; done))
end
section
set_option linter.unusedVariables false
set_option linter.unusedSimpArgs false
set_option maxRecDepth 4000
theorem fnOk65 : fnOk Try.prog 65 = true := by kernel_rfl
theorem fnOk66 : fnOk Try.prog 66 = true := by kernel_rfl
theorem fnOk67 : fnOk Try.prog 67 = true := by kernel_rfl
theorem fnOk70 : fnOk Try.prog 70 = true := by kernel_rfl
theorem fnOk71 : fnOk Try.prog 71 = true := by kernel_rfl
theorem fin0_lives17_ok {P : Prop} (h : P := by first | omega | (simp only [List.length_append, List.length_nil, List.length_cons, List.length_take, List.length_drop] at *; omega) | (have : exC.length = 6 := rfl; omega) | decide) : P := h
theorem lives17_ok (W : World) : CallR Try.prog 70 [] W (mnil) (fun v m' => v = .bool true) := by
  refine CallR.ofA (n := 50) Try.func70 rfl rfl rfl ?_
  refine VC.rs ?_
  refine VO.as ?_
  refine VO.k1 0 ?_
  refine VC.rs ?_
  refine VO.callN 101 rfl fnOk66 rfl (fun W hW => example17_ok W ) (fun v1 m1 hv1 => ?_)
  obtain ⟨s1_0, rfl, f1_0⟩ := hv1
  obtain ⟨A1_0, c1_0, eq1_0, l1_0, k1_0⟩ := f1_0.slice
  subst eq1_0
  simp only [maxLen] at k1_0
  refine VO.callN 102 rfl fnOk65 rfl (fun W hW => next_ok W 3 (by simp only [inK]; (exact fin0_lives17_ok)) (Ow.rd f1_0 (hW.at (i := 101) rfl)) 4 (by simp only [inK]; (exact fin0_lives17_ok))) (fun v2 m2 hv2 => ?_)
  obtain ⟨s2_0, rfl, f2_0⟩ := hv2
  obtain ⟨q2_0_A4, q2_0_c4, q2_0_A7, q2_0_c7, q2_0_n4, q2_0_n7, rfl, q2_0_S, q2_0_0, q2_0_1, q2_0_2, q2_0_3, q2_0_4, q2_0_5, q2_0_6, q2_0_7⟩ := openO_Message (x0 := ((shipNext 3 exC 4).1).1) (x1 := ((shipNext 3 exC 4).1).2.1) (x2 := ((shipNext 3 exC 4).1).2.2.1) (x3 := ((shipNext 3 exC 4).1).2.2.2.1) (x4 := ((shipNext 3 exC 4).1).2.2.2.2.1) (x5 := ((shipNext 3 exC 4).1).2.2.2.2.2.1) (x6 := ((shipNext 3 exC 4).1).2.2.2.2.2.2.1) (x7 := ((shipNext 3 exC 4).1).2.2.2.2.2.2.2) f2_0
  simp only [inK] at q2_0_0
  simp only [inK] at q2_0_1
  simp only [inK] at q2_0_2
  simp only [inK] at q2_0_3
  have q2_0_r4 := Rd.room (q2_0_4.rd (mle_refl _))
  simp only [inK] at q2_0_5
  simp only [inK] at q2_0_6
  have q2_0_r7 := Rd.room (q2_0_7.rd (mle_refl _))
  refine VO.inv _ (fun _ h => h.parts (i := 102) rfl q2_0_S [103, 104]) ?_
  refine VO.mv ?_
  refine VO.y rfl (.ext rfl rfl) ?_
  refine VO.y rfl (.ext rfl rfl) ?_
  refine VO.alloc 106 rfl tz72 (fun g5 => ?_)
  refine VO.store (k := 8) (c' := [Value.int .i64 (((shipNext 3 exC 4).1).1), Value.int .i64 (((shipNext 3 exC 4).1).2.1), Value.int .u8 (((shipNext 3 exC 4).1).2.2.1), Value.int .i64 (((shipNext 3 exC 4).1).2.2.2.1), Value.slice q2_0_A4 ((((shipNext 3 exC 4).1).2.2.2.2.1).length) (q2_0_c4), Value.int .i64 (((shipNext 3 exC 4).1).2.2.2.2.2.1), Value.int .i64 (((shipNext 3 exC 4).1).2.2.2.2.2.2.1), Value.slice q2_0_A7 ((((shipNext 3 exC 4).1).2.2.2.2.2.2.2).length) (q2_0_c7)]) 106 rfl rfl (.inl tk72) rfl rfl rfl rfl rfl ?_
  refine VO.as ?_
  refine VO.k3 0 1 2 ?_
  refine VC.rs ?_
  refine VO.callN 107 rfl fnOk66 rfl (fun W hW => example17_ok W ) (fun v7 m7 hv7 => ?_)
  obtain ⟨s7_0, rfl, f7_0⟩ := hv7
  obtain ⟨A7_0, c7_0, eq7_0, l7_0, k7_0⟩ := f7_0.slice
  subst eq7_0
  simp only [maxLen] at k7_0
  refine VO.callN 108 rfl fnOk67 rfl (fun W hW => hello_ok W 3 (by simp only [inK]; (exact fin0_lives17_ok)) 1 (by simp only [inK]; (exact fin0_lives17_ok)) (Ow.rd f7_0 (hW.at (i := 107) rfl)) (by exact fin0_lives17_ok)) (fun v8 m8 hv8 => ?_)
  obtain ⟨s8_0, rfl, f8_0⟩ := hv8
  obtain ⟨q8_0_A4, q8_0_c4, q8_0_A7, q8_0_c7, q8_0_n4, q8_0_n7, rfl, q8_0_S, q8_0_0, q8_0_1, q8_0_2, q8_0_3, q8_0_4, q8_0_5, q8_0_6, q8_0_7⟩ := openO_Message (x0 := ((shipHello 3 1 exC).1).1) (x1 := ((shipHello 3 1 exC).1).2.1) (x2 := ((shipHello 3 1 exC).1).2.2.1) (x3 := ((shipHello 3 1 exC).1).2.2.2.1) (x4 := ((shipHello 3 1 exC).1).2.2.2.2.1) (x5 := ((shipHello 3 1 exC).1).2.2.2.2.2.1) (x6 := ((shipHello 3 1 exC).1).2.2.2.2.2.2.1) (x7 := ((shipHello 3 1 exC).1).2.2.2.2.2.2.2) f8_0
  simp only [inK] at q8_0_0
  simp only [inK] at q8_0_1
  simp only [inK] at q8_0_2
  simp only [inK] at q8_0_3
  have q8_0_r4 := Rd.room (q8_0_4.rd (mle_refl _))
  simp only [inK] at q8_0_5
  simp only [inK] at q8_0_6
  have q8_0_r7 := Rd.room (q8_0_7.rd (mle_refl _))
  refine VO.inv _ (fun _ h => h.parts (i := 108) rfl q8_0_S [109, 110]) ?_
  refine VO.mv ?_
  refine VO.y rfl (.ext rfl rfl) ?_
  refine VO.y rfl (.ext rfl rfl) ?_
  refine VO.alloc 112 rfl tz72 (fun g11 => ?_)
  refine VO.store (k := 8) (c' := [Value.int .i64 (((shipHello 3 1 exC).1).1), Value.int .i64 (((shipHello 3 1 exC).1).2.1), Value.int .u8 (((shipHello 3 1 exC).1).2.2.1), Value.int .i64 (((shipHello 3 1 exC).1).2.2.2.1), Value.slice q8_0_A4 ((((shipHello 3 1 exC).1).2.2.2.2.1).length) (q8_0_c4), Value.int .i64 (((shipHello 3 1 exC).1).2.2.2.2.2.1), Value.int .i64 (((shipHello 3 1 exC).1).2.2.2.2.2.2.1), Value.slice q8_0_A7 ((((shipHello 3 1 exC).1).2.2.2.2.2.2.2).length) (q8_0_c7)]) 112 rfl rfl (.inl tk72) rfl rfl rfl rfl rfl ?_
  refine VO.as ?_
  refine VO.keep [112, 109, 110, 106, 103, 104, 0] [(112, mone g11 (.cells [Value.int .i64 (((shipHello 3 1 exC).1).1), Value.int .i64 (((shipHello 3 1 exC).1).2.1), Value.int .u8 (((shipHello 3 1 exC).1).2.2.1), Value.int .i64 (((shipHello 3 1 exC).1).2.2.2.1), Value.slice q8_0_A4 ((((shipHello 3 1 exC).1).2.2.2.2.1).length) (q8_0_c4), Value.int .i64 (((shipHello 3 1 exC).1).2.2.2.2.2.1), Value.int .i64 (((shipHello 3 1 exC).1).2.2.2.2.2.2.1), Value.slice q8_0_A7 ((((shipHello 3 1 exC).1).2.2.2.2.2.2.2).length) (q8_0_c7)].toArray 72 (0, 0))), (109, q8_0_n4), (110, q8_0_n7), (106, mone g5 (.cells [Value.int .i64 (((shipNext 3 exC 4).1).1), Value.int .i64 (((shipNext 3 exC 4).1).2.1), Value.int .u8 (((shipNext 3 exC 4).1).2.2.1), Value.int .i64 (((shipNext 3 exC 4).1).2.2.2.1), Value.slice q2_0_A4 ((((shipNext 3 exC 4).1).2.2.2.2.1).length) (q2_0_c4), Value.int .i64 (((shipNext 3 exC 4).1).2.2.2.2.2.1), Value.int .i64 (((shipNext 3 exC 4).1).2.2.2.2.2.2.1), Value.slice q2_0_A7 ((((shipNext 3 exC 4).1).2.2.2.2.2.2.2).length) (q2_0_c7)].toArray 72 (0, 0))), (103, q2_0_n4), (104, q2_0_n7), (0, wm W)] (by kernel_rfl) ?_
  refine VO.k5 0 1 2 3 4 ?_
  refine VC.rs ?_
  refine VO.mv ?_
  refine VO.y rfl (.eql rfl rfl) ?_
  refine VO.mv ?_
  refine VO.dec (t := 17) rfl (fun hc13 => ?_) (fun hc13 => ?_)
  · -- T
    refine VO.gy rfl ⟨_, rfl, rfl⟩ (.mv rfl) ?_
    refine VO.gy rfl ⟨_, rfl, rfl⟩ (.eql rfl rfl) ?_
    refine VO.y rfl (.pT rfl rfl) ?_
    refine VO.mv ?_
    refine VO.dec (t := 21) rfl (fun hc14 => ?_) (fun hc14 => ?_)
    · -- TT
      refine VO.gy rfl ⟨_, rfl, rfl⟩ (.fa rfl tst72 rfl) ?_
      refine VO.gy rfl ⟨_, rfl, rfl⟩ (.ld1 106 rfl tk3 rfl (cellsAt_one rfl rfl)) ?_
      refine VO.gy rfl ⟨_, rfl, rfl⟩ (.eql rfl rfl) ?_
      refine VO.y rfl (.pT rfl rfl) ?_
      refine VO.mv ?_
      refine VO.dec (t := 26) rfl (fun hc15 => ?_) (fun hc15 => ?_)
      · -- TTT
        refine VO.gy rfl ⟨_, rfl, rfl⟩ (.fa rfl tst72 rfl) ?_
        refine VO.gy rfl ⟨_, rfl, rfl⟩ (.ld1 106 rfl tk3 rfl (cellsAt_one rfl rfl)) ?_
        refine VO.gy rfl ⟨_, rfl, rfl⟩ (.eql rfl rfl) ?_
        refine VO.y rfl (.pT rfl rfl) ?_
        refine VO.mv ?_
        refine VO.dec (t := 31) rfl (fun hc16 => ?_) (fun hc16 => ?_)
        · -- TTTT
          refine VO.gy rfl ⟨_, rfl, rfl⟩ (.fa rfl tst72 rfl) ?_
          refine VO.gy rfl ⟨_, rfl, rfl⟩ (.ld1 106 rfl tk3 rfl (cellsAt_one rfl rfl)) ?_
          refine VO.gy rfl ⟨_, rfl, rfl⟩ (.eql rfl rfl) ?_
          refine VO.y rfl (.pT rfl rfl) ?_
          refine VO.mv ?_
          refine VO.dec (t := 36) rfl (fun hc17 => ?_) (fun hc17 => ?_)
          · -- TTTTT
            refine VO.gy rfl ⟨_, rfl, rfl⟩ (.fa rfl tst72 rfl) ?_
            refine VO.gy rfl ⟨_, rfl, rfl⟩ (.ld1 106 rfl tk61 rfl (cellsAt_one rfl rfl)) ?_
            refine VO.gy rfl ⟨_, rfl, rfl⟩ (.lenS rfl tsl61) ?_
            refine VO.gy rfl ⟨_, rfl, rfl⟩ (.eql rfl rfl) ?_
            refine VO.y rfl (.pT rfl rfl) ?_
            refine VO.mv ?_
            refine VO.dec (t := 42) rfl (fun hc18 => ?_) (fun hc18 => ?_)
            · -- TTTTTT
              refine VO.gy rfl ⟨_, rfl, rfl⟩ (.ldA 112 rfl tk72 rfl (cellsAt_one rfl rfl)) ?_
              refine VO.gy rfl ⟨_, rfl, rfl⟩ (.bst (cs := [Value.int .i64 (1), Value.int .i64 (1)]) rfl tst90 tz90 rfl) ?_
              refine VO.gy rfl ⟨_, rfl, rfl⟩ (.bst (cs := [Value.int .i64 (3), Value.int .i64 (6)]) rfl tst90 tz90 rfl) ?_
              refine VO.gbsl (cs := [Value.int .i64 (1), Value.int .i64 (1), Value.int .i64 (3), Value.int .i64 (6)]) 120 rfl ⟨_, rfl, rfl⟩ rfl tsl70 tz90 rfl rfl (fun g19 => ?_)
              refine VO.gy rfl ⟨_, rfl, rfl⟩ (.bst (cs := [Value.int .i64 (1), Value.int .i64 (3), Value.int .u8 (1), Value.int .i64 (6), Value.slice (some ⟨g19, 0, none⟩) (2) (2), Value.int .i64 (0), Value.int .i64 (0), Value.slice none (0) (0)]) rfl tst72 tz72 rfl) ?_
              have ho22 : OwnL TStart (mone g19 (.cells [Value.int .i64 (1), Value.int .i64 (1), Value.int .i64 (3), Value.int .i64 (6)].toArray 90 (0, 0))) mnil (Value.slice (some ⟨g19, 0, none⟩) (2) (2)) [(1, 1), (3, 6)] := OwnL.lit 2 (All2c.cons (c1 := [Value.int .i64 (1), Value.int .i64 (1)]) (mk_Start (m := _) 1 1 (by simp only [inK]; (exact fin0_lives17_ok)) (by simp only [inK]; (exact fin0_lives17_ok))) (All2c.cons (c1 := [Value.int .i64 (3), Value.int .i64 (6)]) (mk_Start (m := _) 3 6 (by simp only [inK]; (exact fin0_lives17_ok)) (by simp only [inK]; (exact fin0_lives17_ok))) All2c.nil)) rfl rfl
              refine VO.gcallN 121 rfl ⟨_, rfl, rfl⟩ fnOk71 rfl (fun W hW => SameMessage_ok W (show Rd TMessage _ _ ((shipHello 3 1 exC).1) from (mk_Message (m := wm W) (((shipHello 3 1 exC).1).1) (((shipHello 3 1 exC).1).2.1) (((shipHello 3 1 exC).1).2.2.1) (((shipHello 3 1 exC).1).2.2.2.1) (((shipHello 3 1 exC).1).2.2.2.2.1) (((shipHello 3 1 exC).1).2.2.2.2.2.1) (((shipHello 3 1 exC).1).2.2.2.2.2.2.1) (((shipHello 3 1 exC).1).2.2.2.2.2.2.2) (by simp only [inK]; (exact fin0_lives17_ok)) (by simp only [inK]; (exact fin0_lives17_ok)) (by simp only [inK]; (exact fin0_lives17_ok)) (by simp only [inK]; (exact fin0_lives17_ok)) (OwnL.rd (Ow.ownl q8_0_4 rfl mnil) (hW.at (i := 109) rfl) (mle_nil _)) (by simp only [inK]; (exact fin0_lives17_ok)) (by simp only [inK]; (exact fin0_lives17_ok)) (Ow.rd q8_0_7 (hW.at (i := 110) rfl)))) (mk_Message (m := wm W) 1 3 1 6 ([(1, 1), (3, 6)]) 0 0 [] (by simp only [inK]; (exact fin0_lives17_ok)) (by simp only [inK]; (exact fin0_lives17_ok)) (by simp only [inK]; (exact fin0_lives17_ok)) (by simp only [inK]; (exact fin0_lives17_ok)) (OwnL.rd ho22 (hW.at (i := 120) rfl) (mle_nil _)) (by simp only [inK]; (exact fin0_lives17_ok)) (by simp only [inK]; (exact fin0_lives17_ok)) (Rd.nil _ _ none 0 (Nat.zero_le _)))) (fun v21 m21 hv21 => ?_)
              try dsimp only at hv21
              subst hv21
              refine VO.y rfl (.pT rfl rfl) ?_
              refine VO.as ?_
              refine VO.k5 0 1 2 3 4 ?_
              refine VC.ret ?_
              refine ⟨_, _, res_run (rs := [.tmp 0]) rfl (.tmp rfl .nil), fun W_ hI => out_of (l := []) hI [] rfl rfl (mle_refl _) (fun hS_ => ?_)⟩
              dsimp only [packV]
              all_goals (first | rfl | (exact congrArg Value.bool (decide_eq_true (by first | rfl | decide))))
            · -- TTTTTF
              exact absurd (by first | rfl | decide) hc18
          · -- TTTTF
            exact absurd (by first | rfl | decide) hc17
        · -- TTTF
          exact absurd (by first | rfl | decide) hc16
      · -- TTF
        exact absurd (by first | rfl | decide) hc15
    · -- TF
      exact absurd (by first | rfl | decide) hc14
  · -- F
    exact absurd (by first | rfl | decide) hc13
end
end Go.Proofs.Ytfaknkkaegjdaaa
