/- Part 4 of the proof of LDiskFuse: what it needs of the library, the walks and the plain laws. Conditions: those named in each theorem. -/
import Derived.Test.YtmhalhadgclffaaLDiskFuseM3
namespace Go.Proofs.Ytmhalhadgclffaa
section
set_option linter.unusedVariables false
set_option linter.unusedSimpArgs false
set_option maxRecDepth 4000
theorem fnOk23 : fnOk Try.prog 23 = true := by kernel_rfl
theorem fnOk24 : fnOk Try.prog 24 = true := by kernel_rfl
theorem fnOk8 : fnOk Try.prog 8 = true := by kernel_rfl
theorem fnOk9 : fnOk Try.prog 9 = true := by kernel_rfl
theorem fin0_diskFuse_ok {P : Prop} (h : P := by first | omega | (simp only [List.length_append, List.length_nil, List.length_cons, List.length_take, List.length_drop] at *; omega) | (have h_ := hsm.1 _ (List.mem_of_getElem? ‹d0[k]? = some _›); have h2_ := hsm.2; omega)) : P := h
set_option maxHeartbeats 4000000 in
theorem diskFuse_ok (W : World) {v0 : Value} {d0 : List Dlaw05Act} (h0 : Rd (.sl Tlaw05Act) (wm W) [v0] d0) (d1 : Int) (h1 : inK .i64 d1) : CallR Try.prog 5 [v0, .int .i64 d1] W (mnil) (fun v m' => v = .bool true) := by
  obtain ⟨A0, c0, rfl, l0, k0⟩ := h0.slice
  simp only [maxLen] at k0
  have h1' := h1; simp only [inK] at h1'
  refine CallR.ofA (n := 121) Try.func5 rfl rfl rfl ?_
  refine VC.rs ?_
  refine VO.as ?_
  refine VO.k3 0 1 4 ?_
  refine VC.seq ?_
  refine VC.rs ?_
  refine VO.callN 101 rfl fnOk8 rfl (fun W hW => lives05_ok W ) (fun v1 m1 hv1 => ?_)
  subst hv1
  refine VO.y rfl (.not rfl) ?_
  refine VO.k4 0 1 4 11 ?_
  refine VC.condF rfl ?_
  refine VC.skip ?_
  refine outN ?_
  refine VC.seq ?_
  refine VC.rs ?_
  refine VO.mv ?_
  refine VO.callN 102 rfl fnOk9 rfl (fun W hW => small05_ok W (Rd.mono h0 (hW.at (i := 0) rfl))) (fun v2 m2 hv2 => ?_)
  subst hv2
  refine VO.y rfl (.notD rfl) ?_
  refine VO.keep [0] [(0, wm W)] (by kernel_rfl) ?_
  refine VO.k5 0 1 4 11 14 ?_
  refine VC.cond rfl (fun hc3 => ?_) (fun hc3 => ?_)
  · -- T
    refine VC.rs ?_
    refine VO.as ?_
    refine VO.k5 0 1 4 11 14 ?_
    refine VC.ret ?_
    refine outR ?_
    refine ⟨_, _, res_run (rs := [.tmp 4]) rfl (.tmp rfl .nil), fun W_ hI => out_of (l := []) hI [] rfl rfl (mle_refl _) (fun hS_ => ?_)⟩
    dsimp only [packV]
    all_goals (first | rfl | (first | exact congrArg Value.bool (decide_eq_true (hp (by omega))) | (simp [*]; done)))
  · -- F
    refine VC.skip ?_
    refine outN ?_
    refine VC.rs ?_
    refine VO.mv ?_
    refine VO.callN 104 rfl fnOk11 rfl (fun W hW => pick_ok W d1 (by simp only [inK]; (exact fin0_diskFuse_ok)) 1001 (by simp only [inK]; (exact fin0_diskFuse_ok)) (by exact fin0_diskFuse_ok)) (fun v4 m4 hv4 => ?_)
    subst hv4
    have hfa5 := pickI_bounds d1 1001 (by omega)
    refine VO.as ?_
    refine VO.k5 0 1 4 11 14 ?_
    refine VC.rs ?_
    refine VO.callN 106 rfl fnOk10 rfl (fun W hW => dNew_ok W ) (fun v6 m6 hv6 => ?_)
    obtain ⟨s6_0, rfl, f6_0⟩ := hv6
    have hfa7 := okD_new
    have hfa8 := (show wD newD = 0 from rfl)
    refine VO.as ?_
    refine VO.k6 0 1 4 5 11 14 ?_
    refine VC.seq ?_
    refine VC.rs ?_
    refine VO.mv ?_
    refine VO.mv ?_
    refine VO.call 106 rfl fnOk22 rfl rfl (fun W hW => dFuse_ok W (hW.at (i := 106) rfl) f6_0 (pickI d1 1001) (by simp only [inK]; (exact fin0_diskFuse_ok)) (by assumption)) (fun v9 m9 hv9 => ?_)
    obtain ⟨rfl, w9_0⟩ := hv9
    have hfa10 := (fuse_ok (n := (pickI d1 1001)) (show okD newD by assumption))
    have hfa11 := (fuse_w newD (pickI d1 1001))
    refine VO.y rfl (.neq rfl rfl) ?_
    refine VO.keep [106, 0] [(106, m9), (0, wm W)] (by kernel_rfl) ?_
    refine VO.k7 0 1 4 5 11 14 21 ?_
    refine VC.cond rfl (fun hc12 => ?_) (fun hc12 => ?_)
    · -- FT
      exact absurd (fz_new (by omega)).1 hc12
    · -- FF
      refine VC.skip ?_
      refine outN ?_
      refine VC.seq ?_
      refine VC.rs ?_
      refine VO.as ?_
      refine VO.k8 0 1 4 5 6 11 14 21 ?_
      refine VC.block ?_
      refine VC.loop (G := Nat × DdiskDisk × Mem) (fun g => [(6, Value.int .i64 ((((g.1) : Nat) : Int))), (0, Value.slice A0 (d0.length) (c0)), (1, Value.int .i64 (pickI d1 1001)), (5, Value.pointer (some ⟨s6_0, 0, none⟩)), (11, Value.bool false), (14, Value.bool (decide (¬ (smallA d0)))), (21, Value.bool (decide (¬ ((dFuse newD (pickI d1 1001)).2) = 0)))]) (fun g => [(106, (g.2.2)), (0, wm W)]) (fun g => ((g.1) ≤ d0.length) ∧ (Fz (pickI d1 1001) (g.2.1)) ∧ (wD (g.2.1) ≤ 1300 * (g.1)) ∧ (Ow (.ptr TdiskDisk) (g.2.2) [.pointer (some ⟨s6_0, 0, none⟩)] (s6_0, (g.2.1)))) (fun g => d0.length - (g.1)) (0, (dFuse newD (pickI d1 1001)).1, m9) (⟨by omega, by exact (fz_new (by omega)).2, by (rw [fuse_w]; omega), w9_0⟩) ⟨⟨rfl, rfl, rfl, rfl, rfl, rfl, rfl, trivial⟩, fun _ h => h.sub [106, 0]⟩ ?_
      rintro ⟨k, d, d_m⟩ ⟨hk, hz, hw, h_d⟩
      replace hk : k ≤ d0.length := hk
      replace hz : Fz (pickI d1 1001) d := hz
      replace hw : wD d ≤ 1300 * k := hw
      replace h_d : Ow (.ptr TdiskDisk) d_m [.pointer (some ⟨s6_0, 0, none⟩)] (s6_0, d) := h_d
      show VC _ _ _ _ _ [(6, Value.int .i64 (((k : Nat) : Int))), (0, Value.slice A0 (d0.length) (c0)), (1, Value.int .i64 (pickI d1 1001)), (5, Value.pointer (some ⟨s6_0, 0, none⟩)), (11, Value.bool false), (14, Value.bool (decide (¬ (smallA d0)))), (21, Value.bool (decide (¬ ((dFuse newD (pickI d1 1001)).2) = 0)))] [(106, d_m), (0, wm W)]
      have hok := hz.ok
      have hsm := Decidable.not_not.1 ‹¬ ¬ smallA d0›
      have hsm2 := hsm.2
      refine VC.seq ?_
      refine VC.rs ?_
      refine VO.mv ?_
      refine VO.mv ?_
      refine VO.y rfl (.lenS rfl tsl22) ?_
      refine VO.y rfl (.lss rfl rfl) ?_
      refine VO.k8 0 1 5 6 11 14 21 25 ?_
      refine VC.cond rfl (fun hc13 => ?_) (fun hc13 => ?_)
      · -- FFT
        refine VC.skip ?_
        refine outN ?_
        refine VC.seq ?_
        refine VC.block ?_
        refine VC.rs ?_
        refine VO.mv ?_
        refine VO.call 106 rfl fnOk24 rfl rfl (fun W hW => dSteps_ok W (hW.at (i := 106) rfl) h_d) (fun v14 m14 hv14 => ?_)
        obtain ⟨rfl, w14_0⟩ := hv14
        refine VO.as ?_
        refine VO.keep [106, 0] [(106, m14), (0, wm W)] (by kernel_rfl) ?_
        refine VO.k9 0 1 5 6 7 11 14 21 25 ?_
        refine VC.rs ?_
        refine VO.as ?_
        refine VO.k10 0 1 5 6 7 8 11 14 21 25 ?_
        refine VC.seq ?_
        refine VC.rs ?_
        refine VO.mv ?_
        refine VO.mv ?_
        obtain ⟨x15, hx15⟩ : ∃ z_, (d0)[k]? = some z_ := ⟨_, List.getElem?_eq_getElem (by exact fin0_diskFuse_ok)⟩
        obtain ⟨gg15, oo15, ec15, ea15, hce15, hre15⟩ := h0.elem hx15
        cases ea15
        obtain ⟨q15_A4, q15_c4, rfl, q15_0, q15_1, q15_2, q15_3, q15_4⟩ := open_law05Act (x0 := x15.1) (x1 := x15.2.1) (x2 := x15.2.2.1) (x3 := x15.2.2.2.1) (x4 := x15.2.2.2.2) hre15
        simp only [inK] at q15_0
        simp only [inK] at q15_1
        simp only [inK] at q15_2
        simp only [inK] at q15_3
        have q15_r4 := Rd.room q15_4
        refine VO.y rfl (.ixI k rfl rfl tsl22 rfl (by exact fin0_diskFuse_ok)) ?_
        refine VO.y rfl (.fa rfl tst31 rfl) ?_
        refine VO.y rfl (.ld1 0 rfl tk3 rfl (hce15.at1 (j := 0) rfl)) ?_
        refine VO.callN 116 rfl fnOk11 rfl (fun W hW => pick_ok W x15.1 (by simp only [inK]; (exact fin0_diskFuse_ok)) 3 (by simp only [inK]; (exact fin0_diskFuse_ok)) (by exact fin0_diskFuse_ok)) (fun v16 m16 hv16 => ?_)
        subst hv16
        have hfa17 := pickI_bounds x15.1 3 (by omega)
        refine VO.k11 0 1 5 6 7 8 11 14 21 25 35 ?_
        refine VC.block ?_
        refine VC.rs ?_
        refine VO.y rfl (.eql rfl rfl) ?_
        refine VO.as ?_
        refine VO.keep [106, 0] [(106, m14), (0, wm W)] (by kernel_rfl) ?_
        refine VO.k12 0 1 5 6 7 8 11 14 21 25 35 38 ?_
        refine VC.cond rfl (fun hc18 => ?_) (fun hc18 => ?_)
        · -- FFTT
          refine VC.regD _ 11 [(0, true), (1, true), (2, true), (3, true), (4, true), (5, true), (6, true), (7, true), (8, true), (9, true), (10, true)] follows (by kernel_rfl) (fun _ h => h.sub [106, 0]) ?_
          refine VD.y rfl rfl (.inl rfl) (.mv rfl) ?_
          refine VD.y rfl rfl (.inl rfl) (.mv rfl) ?_
          refine VD.y rfl rfl (.inl rfl) (.mv rfl) ?_
          refine VD.y rfl rfl (.inl rfl) (.ixI k rfl rfl tsl22 rfl (by exact fin0_diskFuse_ok)) ?_
          refine VD.y rfl rfl (.inl rfl) (.fa rfl tst31 rfl) ?_
          refine VD.y rfl rfl (.inl rfl) (.ld1 0 rfl tk3 rfl (hce15.at1 (j := 1) rfl)) ?_
          refine VD.y rfl rfl (.inl rfl) (.mv rfl) ?_
          refine VD.y rfl rfl (.inl rfl) (.mv rfl) ?_
          refine VD.y rfl rfl (.inl rfl) (.ixI k rfl rfl tsl22 rfl (by exact fin0_diskFuse_ok)) ?_
          refine VD.y rfl rfl (.inl rfl) (.fa rfl tst31 rfl) ?_
          refine VD.y rfl rfl (.inl rfl) (.ld1 0 rfl tk27 rfl (hce15.at1 (j := 4) rfl)) ?_
          refine VD.nil rfl ?_ rfl
          refine VO.call 106 rfl fnOk14 rfl rfl (fun W hW => dWrite_ok W (hW.at (i := 106) rfl) w14_0 x15.2.1 (by simp only [inK]; (exact fin0_diskFuse_ok)) (Rd.mono q15_4 (hW.out (i := 106) (j := 0) rfl rfl)) (by assumption) (by exact fin0_diskFuse_ok)) (fun v21 m21 hv21 => ?_)
          obtain ⟨rfl, w21_0⟩ := hv21
          have hfa22 := (write_ok (f := x15.2.1) (b := x15.2.2.2.2) (show okD d by assumption))
          have hfa23 := (write_w (f := x15.2.1) (b := x15.2.2.2.2) (show okD d by assumption))
          refine VO.as ?_
          refine VO.k12 0 1 5 6 7 8 11 14 21 25 35 38 ?_
          refine outBN ?_
          refine outN ?_
          refine VC.rs ?_
          have hfs : Fs (pickI d1 1001) d ((dWrite d x15.2.1 x15.2.2.2.2).1) ((dWrite d x15.2.1 x15.2.2.2.2).2) := by first | exact Fs.write hz | exact Fs.cut hz | exact Fs.sync hz
          have hsp := fz_steps hfs.fz
          have hof := hfs.off
          have har := hfs.arg
          refine VO.mv ?_
          refine VO.call 106 rfl fnOk24 rfl rfl (fun W hW => dSteps_ok W (hW.at (i := 106) rfl) w21_0) (fun v24 m24 hv24 => ?_)
          obtain ⟨rfl, w24_0⟩ := hv24
          refine VO.mv ?_
          refine VO.y rfl (.gtr rfl rfl) ?_
          refine VO.mv ?_
          refine VO.dec (t := 70) rfl (fun hc25 => ?_) (fun hc25 => ?_)
          · -- FFTTT
            exfalso; omega
          · -- FFTTF
            refine VO.gy rfl ⟨_, rfl, rfl⟩ (.mv rfl) ?_
            refine VO.gy rfl ⟨_, rfl, rfl⟩ (.eql rfl rfl) ?_
            refine VO.gy rfl ⟨_, rfl, rfl⟩ (.mv rfl) ?_
            refine VO.gcall 106 rfl ⟨_, rfl, rfl⟩ fnOk23 rfl rfl (fun W hW => dOn_ok W (hW.at (i := 106) rfl) w24_0) (fun v26 m26 hv26 => ?_)
            obtain ⟨rfl, w26_0⟩ := hv26
            refine VO.gy rfl ⟨_, rfl, rfl⟩ (.notD rfl) ?_
            refine VO.gy rfl ⟨_, rfl, rfl⟩ (.bneq rfl rfl Try.underlying4) ?_
            refine VO.y rfl (.pF rfl rfl) ?_
            refine VO.mv ?_
            refine VO.dec (t := 78) rfl (fun hc27 => ?_) (fun hc27 => ?_)
            · -- FFTTFT
              exact absurd (on_iff hfs.fz hof) hc27
            · -- FFTTFF
              refine VO.gy rfl ⟨_, rfl, rfl⟩ (.mv rfl) ?_
              refine VO.gy rfl ⟨_, rfl, rfl⟩ (.eql rfl rfl) ?_
              refine VO.gy rfl ⟨_, rfl, rfl⟩ (.mv rfl) ?_
              refine VO.dec (t := 81) rfl (fun hc28 => ?_) (fun hc28 => ?_)
              · -- FFTTFFT
                refine VO.gy rfl ⟨_, rfl, rfl⟩ (.mv rfl) ?_
                refine VO.gcall 106 rfl ⟨_, rfl, rfl⟩ fnOk24 rfl rfl (fun W hW => dSteps_ok W (hW.at (i := 106) rfl) w26_0) (fun v29 m29 hv29 => ?_)
                obtain ⟨rfl, w29_0⟩ := hv29
                refine VO.gy rfl ⟨_, rfl, rfl⟩ (.mv rfl) ?_
                refine VO.gy rfl ⟨_, rfl, rfl⟩ (.neq rfl rfl) ?_
                refine VO.gy rfl ⟨_, rfl, rfl⟩ (.pT rfl rfl) ?_
                refine VO.y rfl (.pF rfl rfl) ?_
                refine VO.mv ?_
                refine VO.dec (t := 88) rfl (fun hc30 => ?_) (fun hc30 => ?_)
                · -- FFTTFFTT
                  exfalso; have h_ := hof.1 (by assumption); have h2_ := hsp.2.2 h_; omega
                · -- FFTTFFTF
                  refine VO.gy rfl ⟨_, rfl, rfl⟩ (.mv rfl) ?_
                  refine VO.gy rfl ⟨_, rfl, rfl⟩ (.eql rfl rfl) ?_
                  refine VO.gy rfl ⟨_, rfl, rfl⟩ (.mv rfl) ?_
                  refine VO.dec (t := 91) rfl (fun hc31 => ?_) (fun hc31 => ?_)
                  · -- FFTTFFTFT
                    refine VO.gy rfl ⟨_, rfl, rfl⟩ (.mv rfl) ?_
                    refine VO.gcall 106 rfl ⟨_, rfl, rfl⟩ fnOk24 rfl rfl (fun W hW => dSteps_ok W (hW.at (i := 106) rfl) w29_0) (fun v32 m32 hv32 => ?_)
                    obtain ⟨rfl, w32_0⟩ := hv32
                    refine VO.gy rfl ⟨_, rfl, rfl⟩ (.mv rfl) ?_
                    refine VO.gy rfl ⟨_, rfl, rfl⟩ (.neq rfl rfl) ?_
                    refine VO.gy rfl ⟨_, rfl, rfl⟩ (.pT rfl rfl) ?_
                    refine VO.y rfl (.pF rfl rfl) ?_
                    refine VO.k13 0 1 5 6 7 8 11 14 21 25 35 38 97 ?_
                    refine VC.cond rfl (fun hc33 => ?_) (fun hc33 => ?_)
                    · -- FFTTFFTFTT
                      exfalso; exact hc33 (by rw [har (by assumption)])
                    · -- FFTTFFTFTF
                      refine VC.skip ?_
                      refine outBN ?_
                      refine outN ?_
                      refine VC.reg ?_
                      refine VO.mv ?_
                      refine VO.y rfl (.add (c := ((k + 1 : Nat) : Int)) rfl rfl (by omega) ⟨by exact fin0_diskFuse_ok, by exact fin0_diskFuse_ok⟩) ?_
                      refine VO.as ?_
                      refine VO.keep [106, 0] [(106, m32), (0, wm W)] (by kernel_rfl) ?_
                      refine VO.k13 0 1 5 6 7 8 11 14 21 25 35 38 97 ?_
                      exact outN ⟨⟨k + 1, ((dWrite d x15.2.1 x15.2.2.2.2).1), m32⟩, ⟨by omega, by exact hfs.fz, by (have h_ := hsm.1 _ (List.mem_of_getElem? ‹d0[k]? = some _›); dsimp only; omega), w32_0⟩, by (dsimp only; omega), ⟨⟨rfl, rfl, rfl, rfl, rfl, rfl, rfl, trivial⟩, fun _ h => Inv.sub h [106, 0]⟩⟩
                  · -- FFTTFFTFF
                    refine VO.gN ?_
                    refine VO.gN ?_
                    refine VO.gN ?_
                    refine VO.gN ?_
                    refine VO.gy rfl ⟨_, rfl, rfl⟩ (.pF rfl rfl) ?_
                    refine VO.y rfl (.pF rfl rfl) ?_
                    refine VO.k13 0 1 5 6 7 8 11 14 21 25 35 38 97 ?_
                    refine VC.condF rfl ?_
                    refine VC.skip ?_
                    refine outBN ?_
                    refine outN ?_
                    refine VC.reg ?_
                    refine VO.mv ?_
                    refine VO.y rfl (.add (c := ((k + 1 : Nat) : Int)) rfl rfl (by omega) ⟨by exact fin0_diskFuse_ok, by exact fin0_diskFuse_ok⟩) ?_
                    refine VO.as ?_
                    refine VO.keep [106, 0] [(106, m29), (0, wm W)] (by kernel_rfl) ?_
                    refine VO.k13 0 1 5 6 7 8 11 14 21 25 35 38 97 ?_
                    exact outN ⟨⟨k + 1, ((dWrite d x15.2.1 x15.2.2.2.2).1), m29⟩, ⟨by omega, by exact hfs.fz, by (have h_ := hsm.1 _ (List.mem_of_getElem? ‹d0[k]? = some _›); dsimp only; omega), w29_0⟩, by (dsimp only; omega), ⟨⟨rfl, rfl, rfl, rfl, rfl, rfl, rfl, trivial⟩, fun _ h => Inv.sub h [106, 0]⟩⟩
              · -- FFTTFFF
                refine VO.gN ?_
                refine VO.gN ?_
                refine VO.gN ?_
                refine VO.gN ?_
                refine VO.gy rfl ⟨_, rfl, rfl⟩ (.pF rfl rfl) ?_
                refine VO.y rfl (.pF rfl rfl) ?_
                refine VO.mv ?_
                refine VO.gy rfl ⟨_, rfl, rfl⟩ (.mv rfl) ?_
                refine VO.gy rfl ⟨_, rfl, rfl⟩ (.eql rfl rfl) ?_
                refine VO.gy rfl ⟨_, rfl, rfl⟩ (.mv rfl) ?_
                refine VO.dec (t := 91) rfl (fun hc34 => ?_) (fun hc34 => ?_)
                · -- FFTTFFFT
                  refine VO.gy rfl ⟨_, rfl, rfl⟩ (.mv rfl) ?_
                  refine VO.gcall 106 rfl ⟨_, rfl, rfl⟩ fnOk24 rfl rfl (fun W hW => dSteps_ok W (hW.at (i := 106) rfl) w26_0) (fun v35 m35 hv35 => ?_)
                  obtain ⟨rfl, w35_0⟩ := hv35
                  refine VO.gy rfl ⟨_, rfl, rfl⟩ (.mv rfl) ?_
                  refine VO.gy rfl ⟨_, rfl, rfl⟩ (.neq rfl rfl) ?_
                  refine VO.gy rfl ⟨_, rfl, rfl⟩ (.pT rfl rfl) ?_
                  refine VO.y rfl (.pF rfl rfl) ?_
                  refine VO.k13 0 1 5 6 7 8 11 14 21 25 35 38 97 ?_
                  refine VC.cond rfl (fun hc36 => ?_) (fun hc36 => ?_)
                  · -- FFTTFFFTT
                    exfalso; exact hc36 (by rw [har (by assumption)])
                  · -- FFTTFFFTF
                    refine VC.skip ?_
                    refine outBN ?_
                    refine outN ?_
                    refine VC.reg ?_
                    refine VO.mv ?_
                    refine VO.y rfl (.add (c := ((k + 1 : Nat) : Int)) rfl rfl (by omega) ⟨by exact fin0_diskFuse_ok, by exact fin0_diskFuse_ok⟩) ?_
                    refine VO.as ?_
                    refine VO.keep [106, 0] [(106, m35), (0, wm W)] (by kernel_rfl) ?_
                    refine VO.k13 0 1 5 6 7 8 11 14 21 25 35 38 97 ?_
                    exact outN ⟨⟨k + 1, ((dWrite d x15.2.1 x15.2.2.2.2).1), m35⟩, ⟨by omega, by exact hfs.fz, by (have h_ := hsm.1 _ (List.mem_of_getElem? ‹d0[k]? = some _›); dsimp only; omega), w35_0⟩, by (dsimp only; omega), ⟨⟨rfl, rfl, rfl, rfl, rfl, rfl, rfl, trivial⟩, fun _ h => Inv.sub h [106, 0]⟩⟩
                · -- FFTTFFFF
                  refine VO.gN ?_
                  refine VO.gN ?_
                  refine VO.gN ?_
                  refine VO.gN ?_
                  refine VO.gy rfl ⟨_, rfl, rfl⟩ (.pF rfl rfl) ?_
                  refine VO.y rfl (.pF rfl rfl) ?_
                  refine VO.k13 0 1 5 6 7 8 11 14 21 25 35 38 97 ?_
                  refine VC.condF rfl ?_
                  refine VC.skip ?_
                  refine outBN ?_
                  refine outN ?_
                  refine VC.reg ?_
                  refine VO.mv ?_
                  refine VO.y rfl (.add (c := ((k + 1 : Nat) : Int)) rfl rfl (by omega) ⟨by exact fin0_diskFuse_ok, by exact fin0_diskFuse_ok⟩) ?_
                  refine VO.as ?_
                  refine VO.keep [106, 0] [(106, m26), (0, wm W)] (by kernel_rfl) ?_
                  refine VO.k13 0 1 5 6 7 8 11 14 21 25 35 38 97 ?_
                  exact outN ⟨⟨k + 1, ((dWrite d x15.2.1 x15.2.2.2.2).1), m26⟩, ⟨by omega, by exact hfs.fz, by (have h_ := hsm.1 _ (List.mem_of_getElem? ‹d0[k]? = some _›); dsimp only; omega), w26_0⟩, by (dsimp only; omega), ⟨⟨rfl, rfl, rfl, rfl, rfl, rfl, rfl, trivial⟩, fun _ h => Inv.sub h [106, 0]⟩⟩
        · -- FFTF
          refine VC.rs ?_
          refine VO.y rfl (.eql rfl rfl) ?_
          refine VO.as ?_
          refine VO.k13 0 1 5 6 7 8 11 14 21 25 35 38 52 ?_
          refine VC.cond rfl (fun hc37 => ?_) (fun hc37 => ?_)
          · -- FFTFT
            refine VC.regD _ 11 [(0, true), (1, true), (2, true), (3, true), (4, true), (5, true), (6, true), (7, true), (8, true), (9, true), (10, true)] follows (by kernel_rfl) (fun _ h => h.sub [106, 0]) ?_
            refine VD.y rfl rfl (.inl rfl) (.mv rfl) ?_
            refine VD.y rfl rfl (.inl rfl) (.mv rfl) ?_
            refine VD.y rfl rfl (.inl rfl) (.mv rfl) ?_
            refine VD.y rfl rfl (.inl rfl) (.ixI k rfl rfl tsl22 rfl (by exact fin0_diskFuse_ok)) ?_
            refine VD.y rfl rfl (.inl rfl) (.fa rfl tst31 rfl) ?_
            refine VD.y rfl rfl (.inl rfl) (.ld1 0 rfl tk3 rfl (hce15.at1 (j := 1) rfl)) ?_
            refine VD.y rfl rfl (.inl rfl) (.mv rfl) ?_
            refine VD.y rfl rfl (.inl rfl) (.mv rfl) ?_
            refine VD.y rfl rfl (.inl rfl) (.ixI k rfl rfl tsl22 rfl (by exact fin0_diskFuse_ok)) ?_
            refine VD.y rfl rfl (.inl rfl) (.fa rfl tst31 rfl) ?_
            refine VD.y rfl rfl (.inl rfl) (.ld1 0 rfl tk3 rfl (hce15.at1 (j := 2) rfl)) ?_
            refine VD.nil rfl ?_ rfl
            refine VO.call 106 rfl fnOk25 rfl rfl (fun W hW => dCut_ok W (hW.at (i := 106) rfl) w14_0 x15.2.1 (by simp only [inK]; (exact fin0_diskFuse_ok)) x15.2.2.1 (by simp only [inK]; (exact fin0_diskFuse_ok)) (by assumption) (by exact fin0_diskFuse_ok)) (fun v40 m40 hv40 => ?_)
            obtain ⟨rfl, w40_0⟩ := hv40
            have hfa41 := (cut_ok (f := x15.2.1) (n := x15.2.2.1) (show okD d by assumption))
            have hfa42 := (cut_w (f := x15.2.1) (n := x15.2.2.1) (show okD d by assumption))
            refine VO.as ?_
            refine VO.k13 0 1 5 6 7 8 11 14 21 25 35 38 52 ?_
            refine outBN ?_
            refine outN ?_
            refine VC.rs ?_
            have hfs : Fs (pickI d1 1001) d ((dCut d x15.2.1 x15.2.2.1).1) ((dCut d x15.2.1 x15.2.2.1).2) := by first | exact Fs.write hz | exact Fs.cut hz | exact Fs.sync hz
            have hsp := fz_steps hfs.fz
            have hof := hfs.off
            have har := hfs.arg
            refine VO.mv ?_
            refine VO.call 106 rfl fnOk24 rfl rfl (fun W hW => dSteps_ok W (hW.at (i := 106) rfl) w40_0) (fun v43 m43 hv43 => ?_)
            obtain ⟨rfl, w43_0⟩ := hv43
            refine VO.mv ?_
            refine VO.y rfl (.gtr rfl rfl) ?_
            refine VO.mv ?_
            refine VO.dec (t := 70) rfl (fun hc44 => ?_) (fun hc44 => ?_)
            · -- FFTFTT
              exfalso; omega
            · -- FFTFTF
              refine VO.gy rfl ⟨_, rfl, rfl⟩ (.mv rfl) ?_
              refine VO.gy rfl ⟨_, rfl, rfl⟩ (.eql rfl rfl) ?_
              refine VO.gy rfl ⟨_, rfl, rfl⟩ (.mv rfl) ?_
              refine VO.gcall 106 rfl ⟨_, rfl, rfl⟩ fnOk23 rfl rfl (fun W hW => dOn_ok W (hW.at (i := 106) rfl) w43_0) (fun v45 m45 hv45 => ?_)
              obtain ⟨rfl, w45_0⟩ := hv45
              refine VO.gy rfl ⟨_, rfl, rfl⟩ (.notD rfl) ?_
              refine VO.gy rfl ⟨_, rfl, rfl⟩ (.bneq rfl rfl Try.underlying4) ?_
              refine VO.y rfl (.pF rfl rfl) ?_
              refine VO.mv ?_
              refine VO.dec (t := 78) rfl (fun hc46 => ?_) (fun hc46 => ?_)
              · -- FFTFTFT
                exact absurd (on_iff hfs.fz hof) hc46
              · -- FFTFTFF
                refine VO.gy rfl ⟨_, rfl, rfl⟩ (.mv rfl) ?_
                refine VO.gy rfl ⟨_, rfl, rfl⟩ (.eql rfl rfl) ?_
                refine VO.gy rfl ⟨_, rfl, rfl⟩ (.mv rfl) ?_
                refine VO.dec (t := 81) rfl (fun hc47 => ?_) (fun hc47 => ?_)
                · -- FFTFTFFT
                  refine VO.gy rfl ⟨_, rfl, rfl⟩ (.mv rfl) ?_
                  refine VO.gcall 106 rfl ⟨_, rfl, rfl⟩ fnOk24 rfl rfl (fun W hW => dSteps_ok W (hW.at (i := 106) rfl) w45_0) (fun v48 m48 hv48 => ?_)
                  obtain ⟨rfl, w48_0⟩ := hv48
                  refine VO.gy rfl ⟨_, rfl, rfl⟩ (.mv rfl) ?_
                  refine VO.gy rfl ⟨_, rfl, rfl⟩ (.neq rfl rfl) ?_
                  refine VO.gy rfl ⟨_, rfl, rfl⟩ (.pT rfl rfl) ?_
                  refine VO.y rfl (.pF rfl rfl) ?_
                  refine VO.mv ?_
                  refine VO.dec (t := 88) rfl (fun hc49 => ?_) (fun hc49 => ?_)
                  · -- FFTFTFFTT
                    exfalso; have h_ := hof.1 (by assumption); have h2_ := hsp.2.2 h_; omega
                  · -- FFTFTFFTF
                    refine VO.gy rfl ⟨_, rfl, rfl⟩ (.mv rfl) ?_
                    refine VO.gy rfl ⟨_, rfl, rfl⟩ (.eql rfl rfl) ?_
                    refine VO.gy rfl ⟨_, rfl, rfl⟩ (.mv rfl) ?_
                    refine VO.dec (t := 91) rfl (fun hc50 => ?_) (fun hc50 => ?_)
                    · -- FFTFTFFTFT
                      refine VO.gy rfl ⟨_, rfl, rfl⟩ (.mv rfl) ?_
                      refine VO.gcall 106 rfl ⟨_, rfl, rfl⟩ fnOk24 rfl rfl (fun W hW => dSteps_ok W (hW.at (i := 106) rfl) w48_0) (fun v51 m51 hv51 => ?_)
                      obtain ⟨rfl, w51_0⟩ := hv51
                      refine VO.gy rfl ⟨_, rfl, rfl⟩ (.mv rfl) ?_
                      refine VO.gy rfl ⟨_, rfl, rfl⟩ (.neq rfl rfl) ?_
                      refine VO.gy rfl ⟨_, rfl, rfl⟩ (.pT rfl rfl) ?_
                      refine VO.y rfl (.pF rfl rfl) ?_
                      refine VO.keep [106, 0] [(106, m51), (0, wm W)] (by kernel_rfl) ?_
                      refine VO.k14 0 1 5 6 7 8 11 14 21 25 35 38 52 97 ?_
                      refine VC.cond rfl (fun hc52 => ?_) (fun hc52 => ?_)
                      · -- FFTFTFFTFTT
                        exfalso; exact hc52 (by rw [har (by assumption)])
                      · -- FFTFTFFTFTF
                        refine VC.skip ?_
                        refine outBN ?_
                        refine outN ?_
                        refine VC.reg ?_
                        refine VO.mv ?_
                        refine VO.y rfl (.add (c := ((k + 1 : Nat) : Int)) rfl rfl (by omega) ⟨by exact fin0_diskFuse_ok, by exact fin0_diskFuse_ok⟩) ?_
                        refine VO.as ?_
                        refine VO.k14 0 1 5 6 7 8 11 14 21 25 35 38 52 97 ?_
                        exact outN ⟨⟨k + 1, ((dCut d x15.2.1 x15.2.2.1).1), m51⟩, ⟨by omega, by exact hfs.fz, by (have h_ := hsm.1 _ (List.mem_of_getElem? ‹d0[k]? = some _›); dsimp only; omega), w51_0⟩, by (dsimp only; omega), ⟨⟨rfl, rfl, rfl, rfl, rfl, rfl, rfl, trivial⟩, fun _ h => Inv.sub h [106, 0]⟩⟩
                    · -- FFTFTFFTFF
                      refine VO.gN ?_
                      refine VO.gN ?_
                      refine VO.gN ?_
                      refine VO.gN ?_
                      refine VO.gy rfl ⟨_, rfl, rfl⟩ (.pF rfl rfl) ?_
                      refine VO.y rfl (.pF rfl rfl) ?_
                      refine VO.keep [106, 0] [(106, m48), (0, wm W)] (by kernel_rfl) ?_
                      refine VO.k14 0 1 5 6 7 8 11 14 21 25 35 38 52 97 ?_
                      refine VC.condF rfl ?_
                      refine VC.skip ?_
                      refine outBN ?_
                      refine outN ?_
                      refine VC.reg ?_
                      refine VO.mv ?_
                      refine VO.y rfl (.add (c := ((k + 1 : Nat) : Int)) rfl rfl (by omega) ⟨by exact fin0_diskFuse_ok, by exact fin0_diskFuse_ok⟩) ?_
                      refine VO.as ?_
                      refine VO.k14 0 1 5 6 7 8 11 14 21 25 35 38 52 97 ?_
                      exact outN ⟨⟨k + 1, ((dCut d x15.2.1 x15.2.2.1).1), m48⟩, ⟨by omega, by exact hfs.fz, by (have h_ := hsm.1 _ (List.mem_of_getElem? ‹d0[k]? = some _›); dsimp only; omega), w48_0⟩, by (dsimp only; omega), ⟨⟨rfl, rfl, rfl, rfl, rfl, rfl, rfl, trivial⟩, fun _ h => Inv.sub h [106, 0]⟩⟩
                · -- FFTFTFFF
                  refine VO.gN ?_
                  refine VO.gN ?_
                  refine VO.gN ?_
                  refine VO.gN ?_
                  refine VO.gy rfl ⟨_, rfl, rfl⟩ (.pF rfl rfl) ?_
                  refine VO.y rfl (.pF rfl rfl) ?_
                  refine VO.mv ?_
                  refine VO.gy rfl ⟨_, rfl, rfl⟩ (.mv rfl) ?_
                  refine VO.gy rfl ⟨_, rfl, rfl⟩ (.eql rfl rfl) ?_
                  refine VO.gy rfl ⟨_, rfl, rfl⟩ (.mv rfl) ?_
                  refine VO.dec (t := 91) rfl (fun hc53 => ?_) (fun hc53 => ?_)
                  · -- FFTFTFFFT
                    refine VO.gy rfl ⟨_, rfl, rfl⟩ (.mv rfl) ?_
                    refine VO.gcall 106 rfl ⟨_, rfl, rfl⟩ fnOk24 rfl rfl (fun W hW => dSteps_ok W (hW.at (i := 106) rfl) w45_0) (fun v54 m54 hv54 => ?_)
                    obtain ⟨rfl, w54_0⟩ := hv54
                    refine VO.gy rfl ⟨_, rfl, rfl⟩ (.mv rfl) ?_
                    refine VO.gy rfl ⟨_, rfl, rfl⟩ (.neq rfl rfl) ?_
                    refine VO.gy rfl ⟨_, rfl, rfl⟩ (.pT rfl rfl) ?_
                    refine VO.y rfl (.pF rfl rfl) ?_
                    refine VO.keep [106, 0] [(106, m54), (0, wm W)] (by kernel_rfl) ?_
                    refine VO.k14 0 1 5 6 7 8 11 14 21 25 35 38 52 97 ?_
                    refine VC.cond rfl (fun hc55 => ?_) (fun hc55 => ?_)
                    · -- FFTFTFFFTT
                      exfalso; exact hc55 (by rw [har (by assumption)])
                    · -- FFTFTFFFTF
                      refine VC.skip ?_
                      refine outBN ?_
                      refine outN ?_
                      refine VC.reg ?_
                      refine VO.mv ?_
                      refine VO.y rfl (.add (c := ((k + 1 : Nat) : Int)) rfl rfl (by omega) ⟨by exact fin0_diskFuse_ok, by exact fin0_diskFuse_ok⟩) ?_
                      refine VO.as ?_
                      refine VO.k14 0 1 5 6 7 8 11 14 21 25 35 38 52 97 ?_
                      exact outN ⟨⟨k + 1, ((dCut d x15.2.1 x15.2.2.1).1), m54⟩, ⟨by omega, by exact hfs.fz, by (have h_ := hsm.1 _ (List.mem_of_getElem? ‹d0[k]? = some _›); dsimp only; omega), w54_0⟩, by (dsimp only; omega), ⟨⟨rfl, rfl, rfl, rfl, rfl, rfl, rfl, trivial⟩, fun _ h => Inv.sub h [106, 0]⟩⟩
                  · -- FFTFTFFFF
                    refine VO.gN ?_
                    refine VO.gN ?_
                    refine VO.gN ?_
                    refine VO.gN ?_
                    refine VO.gy rfl ⟨_, rfl, rfl⟩ (.pF rfl rfl) ?_
                    refine VO.y rfl (.pF rfl rfl) ?_
                    refine VO.keep [106, 0] [(106, m45), (0, wm W)] (by kernel_rfl) ?_
                    refine VO.k14 0 1 5 6 7 8 11 14 21 25 35 38 52 97 ?_
                    refine VC.condF rfl ?_
                    refine VC.skip ?_
                    refine outBN ?_
                    refine outN ?_
                    refine VC.reg ?_
                    refine VO.mv ?_
                    refine VO.y rfl (.add (c := ((k + 1 : Nat) : Int)) rfl rfl (by omega) ⟨by exact fin0_diskFuse_ok, by exact fin0_diskFuse_ok⟩) ?_
                    refine VO.as ?_
                    refine VO.k14 0 1 5 6 7 8 11 14 21 25 35 38 52 97 ?_
                    exact outN ⟨⟨k + 1, ((dCut d x15.2.1 x15.2.2.1).1), m45⟩, ⟨by omega, by exact hfs.fz, by (have h_ := hsm.1 _ (List.mem_of_getElem? ‹d0[k]? = some _›); dsimp only; omega), w45_0⟩, by (dsimp only; omega), ⟨⟨rfl, rfl, rfl, rfl, rfl, rfl, rfl, trivial⟩, fun _ h => Inv.sub h [106, 0]⟩⟩
          · -- FFTFF
            refine VC.reg ?_
            refine VO.mv ?_
            refine VO.call 106 rfl fnOk12 rfl rfl (fun W hW => dSync_ok W (hW.at (i := 106) rfl) w14_0 (by assumption) (by exact fin0_diskFuse_ok)) (fun v56 m56 hv56 => ?_)
            obtain ⟨rfl, w56_0⟩ := hv56
            have hfa57 := (sync_ok (show okD d by assumption))
            have hfa58 := (sync_w (show okD d by assumption))
            refine VO.as ?_
            refine VO.k13 0 1 5 6 7 8 11 14 21 25 35 38 52 ?_
            refine outBN ?_
            refine outN ?_
            refine VC.rs ?_
            have hfs : Fs (pickI d1 1001) d ((dSync d).1) ((dSync d).2) := by first | exact Fs.write hz | exact Fs.cut hz | exact Fs.sync hz
            have hsp := fz_steps hfs.fz
            have hof := hfs.off
            have har := hfs.arg
            refine VO.mv ?_
            refine VO.call 106 rfl fnOk24 rfl rfl (fun W hW => dSteps_ok W (hW.at (i := 106) rfl) w56_0) (fun v59 m59 hv59 => ?_)
            obtain ⟨rfl, w59_0⟩ := hv59
            refine VO.mv ?_
            refine VO.y rfl (.gtr rfl rfl) ?_
            refine VO.mv ?_
            refine VO.dec (t := 70) rfl (fun hc60 => ?_) (fun hc60 => ?_)
            · -- FFTFFT
              exfalso; omega
            · -- FFTFFF
              refine VO.gy rfl ⟨_, rfl, rfl⟩ (.mv rfl) ?_
              refine VO.gy rfl ⟨_, rfl, rfl⟩ (.eql rfl rfl) ?_
              refine VO.gy rfl ⟨_, rfl, rfl⟩ (.mv rfl) ?_
              refine VO.gcall 106 rfl ⟨_, rfl, rfl⟩ fnOk23 rfl rfl (fun W hW => dOn_ok W (hW.at (i := 106) rfl) w59_0) (fun v61 m61 hv61 => ?_)
              obtain ⟨rfl, w61_0⟩ := hv61
              refine VO.gy rfl ⟨_, rfl, rfl⟩ (.notD rfl) ?_
              refine VO.gy rfl ⟨_, rfl, rfl⟩ (.bneq rfl rfl Try.underlying4) ?_
              refine VO.y rfl (.pF rfl rfl) ?_
              refine VO.mv ?_
              refine VO.dec (t := 78) rfl (fun hc62 => ?_) (fun hc62 => ?_)
              · -- FFTFFFT
                exact absurd (on_iff hfs.fz hof) hc62
              · -- FFTFFFF
                refine VO.gy rfl ⟨_, rfl, rfl⟩ (.mv rfl) ?_
                refine VO.gy rfl ⟨_, rfl, rfl⟩ (.eql rfl rfl) ?_
                refine VO.gy rfl ⟨_, rfl, rfl⟩ (.mv rfl) ?_
                refine VO.dec (t := 81) rfl (fun hc63 => ?_) (fun hc63 => ?_)
                · -- FFTFFFFT
                  refine VO.gy rfl ⟨_, rfl, rfl⟩ (.mv rfl) ?_
                  refine VO.gcall 106 rfl ⟨_, rfl, rfl⟩ fnOk24 rfl rfl (fun W hW => dSteps_ok W (hW.at (i := 106) rfl) w61_0) (fun v64 m64 hv64 => ?_)
                  obtain ⟨rfl, w64_0⟩ := hv64
                  refine VO.gy rfl ⟨_, rfl, rfl⟩ (.mv rfl) ?_
                  refine VO.gy rfl ⟨_, rfl, rfl⟩ (.neq rfl rfl) ?_
                  refine VO.gy rfl ⟨_, rfl, rfl⟩ (.pT rfl rfl) ?_
                  refine VO.y rfl (.pF rfl rfl) ?_
                  refine VO.mv ?_
                  refine VO.dec (t := 88) rfl (fun hc65 => ?_) (fun hc65 => ?_)
                  · -- FFTFFFFTT
                    exfalso; have h_ := hof.1 (by assumption); have h2_ := hsp.2.2 h_; omega
                  · -- FFTFFFFTF
                    refine VO.gy rfl ⟨_, rfl, rfl⟩ (.mv rfl) ?_
                    refine VO.gy rfl ⟨_, rfl, rfl⟩ (.eql rfl rfl) ?_
                    refine VO.gy rfl ⟨_, rfl, rfl⟩ (.mv rfl) ?_
                    refine VO.dec (t := 91) rfl (fun hc66 => ?_) (fun hc66 => ?_)
                    · -- FFTFFFFTFT
                      refine VO.gy rfl ⟨_, rfl, rfl⟩ (.mv rfl) ?_
                      refine VO.gcall 106 rfl ⟨_, rfl, rfl⟩ fnOk24 rfl rfl (fun W hW => dSteps_ok W (hW.at (i := 106) rfl) w64_0) (fun v67 m67 hv67 => ?_)
                      obtain ⟨rfl, w67_0⟩ := hv67
                      refine VO.gy rfl ⟨_, rfl, rfl⟩ (.mv rfl) ?_
                      refine VO.gy rfl ⟨_, rfl, rfl⟩ (.neq rfl rfl) ?_
                      refine VO.gy rfl ⟨_, rfl, rfl⟩ (.pT rfl rfl) ?_
                      refine VO.y rfl (.pF rfl rfl) ?_
                      refine VO.keep [106, 0] [(106, m67), (0, wm W)] (by kernel_rfl) ?_
                      refine VO.k14 0 1 5 6 7 8 11 14 21 25 35 38 52 97 ?_
                      refine VC.cond rfl (fun hc68 => ?_) (fun hc68 => ?_)
                      · -- FFTFFFFTFTT
                        exfalso; exact hc68 (by rw [har (by assumption)])
                      · -- FFTFFFFTFTF
                        refine VC.skip ?_
                        refine outBN ?_
                        refine outN ?_
                        refine VC.reg ?_
                        refine VO.mv ?_
                        refine VO.y rfl (.add (c := ((k + 1 : Nat) : Int)) rfl rfl (by omega) ⟨by exact fin0_diskFuse_ok, by exact fin0_diskFuse_ok⟩) ?_
                        refine VO.as ?_
                        refine VO.k14 0 1 5 6 7 8 11 14 21 25 35 38 52 97 ?_
                        exact outN ⟨⟨k + 1, ((dSync d).1), m67⟩, ⟨by omega, by exact hfs.fz, by (have h_ := hsm.1 _ (List.mem_of_getElem? ‹d0[k]? = some _›); dsimp only; omega), w67_0⟩, by (dsimp only; omega), ⟨⟨rfl, rfl, rfl, rfl, rfl, rfl, rfl, trivial⟩, fun _ h => Inv.sub h [106, 0]⟩⟩
                    · -- FFTFFFFTFF
                      refine VO.gN ?_
                      refine VO.gN ?_
                      refine VO.gN ?_
                      refine VO.gN ?_
                      refine VO.gy rfl ⟨_, rfl, rfl⟩ (.pF rfl rfl) ?_
                      refine VO.y rfl (.pF rfl rfl) ?_
                      refine VO.keep [106, 0] [(106, m64), (0, wm W)] (by kernel_rfl) ?_
                      refine VO.k14 0 1 5 6 7 8 11 14 21 25 35 38 52 97 ?_
                      refine VC.condF rfl ?_
                      refine VC.skip ?_
                      refine outBN ?_
                      refine outN ?_
                      refine VC.reg ?_
                      refine VO.mv ?_
                      refine VO.y rfl (.add (c := ((k + 1 : Nat) : Int)) rfl rfl (by omega) ⟨by exact fin0_diskFuse_ok, by exact fin0_diskFuse_ok⟩) ?_
                      refine VO.as ?_
                      refine VO.k14 0 1 5 6 7 8 11 14 21 25 35 38 52 97 ?_
                      exact outN ⟨⟨k + 1, ((dSync d).1), m64⟩, ⟨by omega, by exact hfs.fz, by (have h_ := hsm.1 _ (List.mem_of_getElem? ‹d0[k]? = some _›); dsimp only; omega), w64_0⟩, by (dsimp only; omega), ⟨⟨rfl, rfl, rfl, rfl, rfl, rfl, rfl, trivial⟩, fun _ h => Inv.sub h [106, 0]⟩⟩
                · -- FFTFFFFF
                  refine VO.gN ?_
                  refine VO.gN ?_
                  refine VO.gN ?_
                  refine VO.gN ?_
                  refine VO.gy rfl ⟨_, rfl, rfl⟩ (.pF rfl rfl) ?_
                  refine VO.y rfl (.pF rfl rfl) ?_
                  refine VO.mv ?_
                  refine VO.gy rfl ⟨_, rfl, rfl⟩ (.mv rfl) ?_
                  refine VO.gy rfl ⟨_, rfl, rfl⟩ (.eql rfl rfl) ?_
                  refine VO.gy rfl ⟨_, rfl, rfl⟩ (.mv rfl) ?_
                  refine VO.dec (t := 91) rfl (fun hc69 => ?_) (fun hc69 => ?_)
                  · -- FFTFFFFFT
                    refine VO.gy rfl ⟨_, rfl, rfl⟩ (.mv rfl) ?_
                    refine VO.gcall 106 rfl ⟨_, rfl, rfl⟩ fnOk24 rfl rfl (fun W hW => dSteps_ok W (hW.at (i := 106) rfl) w61_0) (fun v70 m70 hv70 => ?_)
                    obtain ⟨rfl, w70_0⟩ := hv70
                    refine VO.gy rfl ⟨_, rfl, rfl⟩ (.mv rfl) ?_
                    refine VO.gy rfl ⟨_, rfl, rfl⟩ (.neq rfl rfl) ?_
                    refine VO.gy rfl ⟨_, rfl, rfl⟩ (.pT rfl rfl) ?_
                    refine VO.y rfl (.pF rfl rfl) ?_
                    refine VO.keep [106, 0] [(106, m70), (0, wm W)] (by kernel_rfl) ?_
                    refine VO.k14 0 1 5 6 7 8 11 14 21 25 35 38 52 97 ?_
                    refine VC.cond rfl (fun hc71 => ?_) (fun hc71 => ?_)
                    · -- FFTFFFFFTT
                      exfalso; exact hc71 (by rw [har (by assumption)])
                    · -- FFTFFFFFTF
                      refine VC.skip ?_
                      refine outBN ?_
                      refine outN ?_
                      refine VC.reg ?_
                      refine VO.mv ?_
                      refine VO.y rfl (.add (c := ((k + 1 : Nat) : Int)) rfl rfl (by omega) ⟨by exact fin0_diskFuse_ok, by exact fin0_diskFuse_ok⟩) ?_
                      refine VO.as ?_
                      refine VO.k14 0 1 5 6 7 8 11 14 21 25 35 38 52 97 ?_
                      exact outN ⟨⟨k + 1, ((dSync d).1), m70⟩, ⟨by omega, by exact hfs.fz, by (have h_ := hsm.1 _ (List.mem_of_getElem? ‹d0[k]? = some _›); dsimp only; omega), w70_0⟩, by (dsimp only; omega), ⟨⟨rfl, rfl, rfl, rfl, rfl, rfl, rfl, trivial⟩, fun _ h => Inv.sub h [106, 0]⟩⟩
                  · -- FFTFFFFFF
                    refine VO.gN ?_
                    refine VO.gN ?_
                    refine VO.gN ?_
                    refine VO.gN ?_
                    refine VO.gy rfl ⟨_, rfl, rfl⟩ (.pF rfl rfl) ?_
                    refine VO.y rfl (.pF rfl rfl) ?_
                    refine VO.keep [106, 0] [(106, m61), (0, wm W)] (by kernel_rfl) ?_
                    refine VO.k14 0 1 5 6 7 8 11 14 21 25 35 38 52 97 ?_
                    refine VC.condF rfl ?_
                    refine VC.skip ?_
                    refine outBN ?_
                    refine outN ?_
                    refine VC.reg ?_
                    refine VO.mv ?_
                    refine VO.y rfl (.add (c := ((k + 1 : Nat) : Int)) rfl rfl (by omega) ⟨by exact fin0_diskFuse_ok, by exact fin0_diskFuse_ok⟩) ?_
                    refine VO.as ?_
                    refine VO.k14 0 1 5 6 7 8 11 14 21 25 35 38 52 97 ?_
                    exact outN ⟨⟨k + 1, ((dSync d).1), m61⟩, ⟨by omega, by exact hfs.fz, by (have h_ := hsm.1 _ (List.mem_of_getElem? ‹d0[k]? = some _›); dsimp only; omega), w61_0⟩, by (dsimp only; omega), ⟨⟨rfl, rfl, rfl, rfl, rfl, rfl, rfl, trivial⟩, fun _ h => Inv.sub h [106, 0]⟩⟩
      · -- FFF
        refine VC.exit ?_
        refine outE ?_
        refine outE ?_
        refine outBB ?_
        refine outN ?_
        refine VC.seq ?_
        refine VC.rs ?_
        refine VO.mv ?_
        refine VO.call 106 rfl fnOk23 rfl rfl (fun W hW => dOn_ok W (hW.at (i := 106) rfl) h_d) (fun v72 m72 hv72 => ?_)
        obtain ⟨rfl, w72_0⟩ := hv72
        refine VO.y rfl (.notD rfl) ?_
        refine VO.keep [106, 0] [(106, m72), (0, wm W)] (by kernel_rfl) ?_
        refine VO.k9 0 1 5 6 11 14 21 25 100 ?_
        refine VC.cond rfl (fun hc73 => ?_) (fun hc73 => ?_)
        · -- FFFT
          refine VC.rs ?_
          refine VO.mv ?_
          refine VO.call 106 rfl fnOk17 rfl rfl (fun W hW => dStart_ok W (hW.at (i := 106) rfl) w72_0 0 (by simp only [inK]; (exact fin0_diskFuse_ok)) 0 (by simp only [inK]; (exact fin0_diskFuse_ok)) (by assumption) (by exact fin0_diskFuse_ok)) (fun v74 m74 hv74 => ?_)
          obtain ⟨rfl, w74_0⟩ := hv74
          have hfa75 := (start_ok (k := 0) (t := 0) (show okD d by assumption))
          have hfa76 := (start_w d 0 0)
          refine VO.y rfl (.neq rfl rfl) ?_
          refine VO.k10 0 1 5 6 11 14 21 25 100 103 ?_
          refine VC.cond rfl (fun hc77 => ?_) (fun hc77 => ?_)
          · -- FFFTT
            exact absurd (onn_start hz (by assumption)).1 hc77
          · -- FFFTF
            refine VC.skip ?_
            refine outN ?_
            refine VC.seq ?_
            refine VC.rs ?_
            refine VO.as ?_
            refine VO.k11 0 1 5 6 9 11 14 21 25 100 103 ?_
            refine VC.block ?_
            refine VC.loop (G := Nat × DdiskDisk × Mem) (fun g => [(9, Value.int .i64 ((((g.1) : Nat) : Int))), (0, Value.slice A0 (d0.length) (c0)), (1, Value.int .i64 (pickI d1 1001)), (5, Value.pointer (some ⟨s6_0, 0, none⟩)), (6, Value.int .i64 (((k : Nat) : Int))), (11, Value.bool false), (14, Value.bool (decide (¬ (smallA d0)))), (21, Value.bool (decide (¬ ((dFuse newD (pickI d1 1001)).2) = 0))), (25, Value.bool (decide (((k : Nat) : Int) < ((d0.length : Nat) : Int)))), (100, Value.bool (decide (¬ (d.1 = true ∧ d.2.1 = false)))), (103, Value.bool (decide (¬ ((dStart d 0 0).2) = 0)))]) (fun g => [(106, (g.2.2)), (0, wm W)]) (fun g => ((g.1) ≤ 3) ∧ (Onn (g.2.1)) ∧ (wD (g.2.1) ≤ 200000 + (g.1)) ∧ (0 < (g.1) → dPending (g.2.1) = 0) ∧ (Ow (.ptr TdiskDisk) (g.2.2) [.pointer (some ⟨s6_0, 0, none⟩)] (s6_0, (g.2.1)))) (fun g => 3 - (g.1)) (0, (dStart d 0 0).1, m74) (⟨by omega, by first | exact (onn_start hz (by assumption)).2 | exact (onn_safe hz (Decidable.not_not.1 (by assumption))).2, by (dsimp only; omega), by (intro h_; omega), w74_0⟩) ⟨⟨rfl, rfl, rfl, rfl, rfl, rfl, rfl, rfl, rfl, rfl, rfl, trivial⟩, fun _ h => h.sub [106, 0]⟩ ?_
            rintro ⟨j, q, q_m⟩ ⟨hj, hq, hw2, hp, h_q⟩
            replace hj : j ≤ 3 := hj
            replace hq : Onn q := hq
            replace hw2 : wD q ≤ 200000 + j := hw2
            replace hp : 0 < j → dPending q = 0 := hp
            replace h_q : Ow (.ptr TdiskDisk) q_m [.pointer (some ⟨s6_0, 0, none⟩)] (s6_0, q) := h_q
            show VC _ _ _ _ _ [(9, Value.int .i64 (((j : Nat) : Int))), (0, Value.slice A0 (d0.length) (c0)), (1, Value.int .i64 (pickI d1 1001)), (5, Value.pointer (some ⟨s6_0, 0, none⟩)), (6, Value.int .i64 (((k : Nat) : Int))), (11, Value.bool false), (14, Value.bool (decide (¬ (smallA d0)))), (21, Value.bool (decide (¬ ((dFuse newD (pickI d1 1001)).2) = 0))), (25, Value.bool (decide (((k : Nat) : Int) < ((d0.length : Nat) : Int)))), (100, Value.bool (decide (¬ (d.1 = true ∧ d.2.1 = false)))), (103, Value.bool (decide (¬ ((dStart d 0 0).2) = 0)))] [(106, q_m), (0, wm W)]
            have hok2 := hq.ok
            refine VC.seq ?_
            refine VC.rs ?_
            refine VO.mv ?_
            refine VO.y rfl (.lss rfl rfl) ?_
            refine VO.keep [106, 0] [(106, q_m), (0, wm W)] (by kernel_rfl) ?_
            refine VO.k12 0 1 5 6 9 11 14 21 25 100 103 108 ?_
            refine VC.cond rfl (fun hc78 => ?_) (fun hc78 => ?_)
            · -- FFFTFT
              refine VC.skip ?_
              refine outN ?_
              refine VC.seq ?_
              refine VC.block ?_
              refine VC.rs ?_
              refine VO.mv ?_
              refine VO.call 106 rfl fnOk12 rfl rfl (fun W hW => dSync_ok W (hW.at (i := 106) rfl) h_q (by assumption) (by exact fin0_diskFuse_ok)) (fun v79 m79 hv79 => ?_)
              obtain ⟨rfl, w79_0⟩ := hv79
              have hfa80 := (sync_ok (show okD q by assumption))
              have hfa81 := (sync_w (show okD q by assumption))
              refine VO.y rfl (.neq rfl rfl) ?_
              refine VO.k13 0 1 5 6 9 11 14 21 25 100 103 108 113 ?_
              refine VC.cond rfl (fun hc82 => ?_) (fun hc82 => ?_)
              · -- FFFTFTT
                exact absurd (onn_sync hq).1 hc82
              · -- FFFTFTF
                refine VC.skip ?_
                refine outBN ?_
                refine outN ?_
                refine VC.reg ?_
                refine VO.mv ?_
                refine VO.y rfl (.add (c := ((j + 1 : Nat) : Int)) rfl rfl (by omega) ⟨by exact fin0_diskFuse_ok, by exact fin0_diskFuse_ok⟩) ?_
                refine VO.as ?_
                refine VO.k13 0 1 5 6 9 11 14 21 25 100 103 108 113 ?_
                exact outN ⟨⟨j + 1, (dSync q).1, m79⟩, ⟨by omega, by exact (onn_sync hq).2.1, by (dsimp only; omega), by exact fun _ => (onn_sync hq).2.2, w79_0⟩, by (dsimp only; omega), ⟨⟨rfl, rfl, rfl, rfl, rfl, rfl, rfl, rfl, rfl, rfl, rfl, trivial⟩, fun _ h => Inv.sub h [106, 0]⟩⟩
            · -- FFFTFF
              refine VC.exit ?_
              refine outE ?_
              refine outE ?_
              refine outBB ?_
              refine outN ?_
              refine VC.rs ?_
              refine VO.mv ?_
              refine VO.call 106 rfl fnOk23 rfl rfl (fun W hW => dOn_ok W (hW.at (i := 106) rfl) h_q) (fun v83 m83 hv83 => ?_)
              obtain ⟨rfl, w83_0⟩ := hv83
              refine VO.mv ?_
              refine VO.dec (t := 116) rfl (fun hc84 => ?_) (fun hc84 => ?_)
              · -- FFFTFFT
                refine VO.gy rfl ⟨_, rfl, rfl⟩ (.mv rfl) ?_
                refine VO.gcall 106 rfl ⟨_, rfl, rfl⟩ fnOk13 rfl rfl (fun W hW => dPending_ok W (hW.at (i := 106) rfl) w83_0) (fun v85 m85 hv85 => ?_)
                obtain ⟨rfl, w85_0⟩ := hv85
                refine VO.gy rfl ⟨_, rfl, rfl⟩ (.eql rfl rfl) ?_
                refine VO.y rfl (.pT rfl rfl) ?_
                refine VO.as ?_
                refine VO.k13 0 1 4 5 6 9 11 14 21 25 100 103 108 ?_
                refine VC.ret ?_
                refine ⟨_, _, res_run (rs := [.tmp 4]) rfl (.tmp rfl .nil), fun W_ hI => out_of (l := []) hI [] rfl rfl (mle_refl _) (fun hS_ => ?_)⟩
                dsimp only [packV]
                all_goals (first | rfl | (first | exact congrArg Value.bool (decide_eq_true (hp (by omega))) | (simp [*]; done)))
              · -- FFFTFFF
                exact absurd ⟨hq.made, hq.on⟩ hc84
        · -- FFFF
          refine VC.rs ?_
          refine VO.mv ?_
          refine VO.call 106 rfl fnOk26 rfl rfl (fun W hW => dSafe_ok W (hW.at (i := 106) rfl) w72_0 (by assumption)) (fun v86 m86 hv86 => ?_)
          obtain ⟨rfl, w86_0⟩ := hv86
          have hfa87 := (safe_ok (show okD d by assumption))
          have hfa88 := (safe_w d)
          refine VO.y rfl (.neq rfl rfl) ?_
          refine VO.k10 0 1 5 6 11 14 21 25 100 106 ?_
          refine VC.cond rfl (fun hc89 => ?_) (fun hc89 => ?_)
          · -- FFFFT
            exact absurd (onn_safe hz (Decidable.not_not.1 (by assumption))).1 hc89
          · -- FFFFF
            refine VC.skip ?_
            refine outN ?_
            refine VC.seq ?_
            refine VC.rs ?_
            refine VO.as ?_
            refine VO.k11 0 1 5 6 9 11 14 21 25 100 106 ?_
            refine VC.block ?_
            refine VC.loop (G := Nat × DdiskDisk × Mem) (fun g => [(9, Value.int .i64 ((((g.1) : Nat) : Int))), (0, Value.slice A0 (d0.length) (c0)), (1, Value.int .i64 (pickI d1 1001)), (5, Value.pointer (some ⟨s6_0, 0, none⟩)), (6, Value.int .i64 (((k : Nat) : Int))), (11, Value.bool false), (14, Value.bool (decide (¬ (smallA d0)))), (21, Value.bool (decide (¬ ((dFuse newD (pickI d1 1001)).2) = 0))), (25, Value.bool (decide (((k : Nat) : Int) < ((d0.length : Nat) : Int)))), (100, Value.bool (decide (¬ (d.1 = true ∧ d.2.1 = false)))), (106, Value.bool (decide (¬ ((dSafe d).2) = 0)))]) (fun g => [(106, (g.2.2)), (0, wm W)]) (fun g => ((g.1) ≤ 3) ∧ (Onn (g.2.1)) ∧ (wD (g.2.1) ≤ 200000 + (g.1)) ∧ (0 < (g.1) → dPending (g.2.1) = 0) ∧ (Ow (.ptr TdiskDisk) (g.2.2) [.pointer (some ⟨s6_0, 0, none⟩)] (s6_0, (g.2.1)))) (fun g => 3 - (g.1)) (0, (dSafe d).1, m86) (⟨by omega, by first | exact (onn_start hz (by assumption)).2 | exact (onn_safe hz (Decidable.not_not.1 (by assumption))).2, by (dsimp only; omega), by (intro h_; omega), w86_0⟩) ⟨⟨rfl, rfl, rfl, rfl, rfl, rfl, rfl, rfl, rfl, rfl, rfl, trivial⟩, fun _ h => h.sub [106, 0]⟩ ?_
            rintro ⟨j, q, q_m⟩ ⟨hj, hq, hw2, hp, h_q⟩
            replace hj : j ≤ 3 := hj
            replace hq : Onn q := hq
            replace hw2 : wD q ≤ 200000 + j := hw2
            replace hp : 0 < j → dPending q = 0 := hp
            replace h_q : Ow (.ptr TdiskDisk) q_m [.pointer (some ⟨s6_0, 0, none⟩)] (s6_0, q) := h_q
            show VC _ _ _ _ _ [(9, Value.int .i64 (((j : Nat) : Int))), (0, Value.slice A0 (d0.length) (c0)), (1, Value.int .i64 (pickI d1 1001)), (5, Value.pointer (some ⟨s6_0, 0, none⟩)), (6, Value.int .i64 (((k : Nat) : Int))), (11, Value.bool false), (14, Value.bool (decide (¬ (smallA d0)))), (21, Value.bool (decide (¬ ((dFuse newD (pickI d1 1001)).2) = 0))), (25, Value.bool (decide (((k : Nat) : Int) < ((d0.length : Nat) : Int)))), (100, Value.bool (decide (¬ (d.1 = true ∧ d.2.1 = false)))), (106, Value.bool (decide (¬ ((dSafe d).2) = 0)))] [(106, q_m), (0, wm W)]
            have hok2 := hq.ok
            refine VC.seq ?_
            refine VC.rs ?_
            refine VO.mv ?_
            refine VO.y rfl (.lss rfl rfl) ?_
            refine VO.keep [106, 0] [(106, q_m), (0, wm W)] (by kernel_rfl) ?_
            refine VO.k12 0 1 5 6 9 11 14 21 25 100 106 108 ?_
            refine VC.cond rfl (fun hc90 => ?_) (fun hc90 => ?_)
            · -- FFFFFT
              refine VC.skip ?_
              refine outN ?_
              refine VC.seq ?_
              refine VC.block ?_
              refine VC.rs ?_
              refine VO.mv ?_
              refine VO.call 106 rfl fnOk12 rfl rfl (fun W hW => dSync_ok W (hW.at (i := 106) rfl) h_q (by assumption) (by exact fin0_diskFuse_ok)) (fun v91 m91 hv91 => ?_)
              obtain ⟨rfl, w91_0⟩ := hv91
              have hfa92 := (sync_ok (show okD q by assumption))
              have hfa93 := (sync_w (show okD q by assumption))
              refine VO.y rfl (.neq rfl rfl) ?_
              refine VO.k13 0 1 5 6 9 11 14 21 25 100 106 108 113 ?_
              refine VC.cond rfl (fun hc94 => ?_) (fun hc94 => ?_)
              · -- FFFFFTT
                exact absurd (onn_sync hq).1 hc94
              · -- FFFFFTF
                refine VC.skip ?_
                refine outBN ?_
                refine outN ?_
                refine VC.reg ?_
                refine VO.mv ?_
                refine VO.y rfl (.add (c := ((j + 1 : Nat) : Int)) rfl rfl (by omega) ⟨by exact fin0_diskFuse_ok, by exact fin0_diskFuse_ok⟩) ?_
                refine VO.as ?_
                refine VO.k13 0 1 5 6 9 11 14 21 25 100 106 108 113 ?_
                exact outN ⟨⟨j + 1, (dSync q).1, m91⟩, ⟨by omega, by exact (onn_sync hq).2.1, by (dsimp only; omega), by exact fun _ => (onn_sync hq).2.2, w91_0⟩, by (dsimp only; omega), ⟨⟨rfl, rfl, rfl, rfl, rfl, rfl, rfl, rfl, rfl, rfl, rfl, trivial⟩, fun _ h => Inv.sub h [106, 0]⟩⟩
            · -- FFFFFF
              refine VC.exit ?_
              refine outE ?_
              refine outE ?_
              refine outBB ?_
              refine outN ?_
              refine VC.rs ?_
              refine VO.mv ?_
              refine VO.call 106 rfl fnOk23 rfl rfl (fun W hW => dOn_ok W (hW.at (i := 106) rfl) h_q) (fun v95 m95 hv95 => ?_)
              obtain ⟨rfl, w95_0⟩ := hv95
              refine VO.mv ?_
              refine VO.dec (t := 116) rfl (fun hc96 => ?_) (fun hc96 => ?_)
              · -- FFFFFFT
                refine VO.gy rfl ⟨_, rfl, rfl⟩ (.mv rfl) ?_
                refine VO.gcall 106 rfl ⟨_, rfl, rfl⟩ fnOk13 rfl rfl (fun W hW => dPending_ok W (hW.at (i := 106) rfl) w95_0) (fun v97 m97 hv97 => ?_)
                obtain ⟨rfl, w97_0⟩ := hv97
                refine VO.gy rfl ⟨_, rfl, rfl⟩ (.eql rfl rfl) ?_
                refine VO.y rfl (.pT rfl rfl) ?_
                refine VO.as ?_
                refine VO.k13 0 1 4 5 6 9 11 14 21 25 100 106 108 ?_
                refine VC.ret ?_
                refine ⟨_, _, res_run (rs := [.tmp 4]) rfl (.tmp rfl .nil), fun W_ hI => out_of (l := []) hI [] rfl rfl (mle_refl _) (fun hS_ => ?_)⟩
                dsimp only [packV]
                all_goals (first | rfl | (first | exact congrArg Value.bool (decide_eq_true (hp (by omega))) | (simp [*]; done)))
              · -- FFFFFFF
                exact absurd ⟨hq.made, hq.on⟩ hc96
end
section
set_option linter.unusedVariables false
set_option maxRecDepth 4000
open Go.ChangeShapes Go.WideShapes Go.ChangeAt Go.RowKit
theorem diskFuse_ok0 : tyOk Try.prog 60 (.sl Tlaw05Act) (.inl 22) = true := by kernel_rfl
set_option maxRecDepth 100000 in
theorem diskFuse_lifted (os : Os) (started : os.Started) (H : Type) (enc : TypeId × Value → H) :
    ReturnsInHanded {} Try.checked os 5 .any (Rows.diskFuseSpec.pre6 enc Try.prog Try.f5 Rows.diskFuseRow.domain false) (Rows.diskFuseSpec.post enc Try.prog Try.f5 false true false false) := by
  refine returnsInHanded_of_change (C := Try.checked) (by kernel_rfl) started (by kernel_rfl) Try.func5
    (ChangeSpec.witness6 (enc := enc) (C := Try.checked) false ⟨#[], #[.slice none 0 0, .int .i64 0], []⟩ 8 (by kernel_rfl) (by kernel_rfl) (by kernel_rfl) (by kernel_rfl)) ?_
  intro W base args ds gs before hval0 hW hcnd _
  have hval : ∀ (j : Nat) t v, Try.f5.params[j]? = some t → args[j]? = some v → Value.okWide Try.prog W .any base t v := hval0
  have hW' := hW
  obtain ⟨p, q, hA0, hV, rfl, hfz, hnd⟩ := hW
  have hA : DataW.TrodAll enc Try.prog W 0 (fun _ => true) true Try.f5.params.toList args.toList ds p := hA0
  rw [Try.params5] at hA hval
  clear hA0 hval0
  obtain ⟨args⟩ := args
  obtain ⟨v0, r0, d0, e0, p0, q0, ha0, rfl, rfl, h0, hA0⟩ := trodAll_cons hA
  simp only at ha0; subst ha0
  obtain ⟨v1, r1, d1, e1, p1, q1, ha1, rfl, rfl, h1, hA1⟩ := trodAll_cons hA0
  subst ha1
  obtain ⟨rfl, rfl, rfl⟩ := trodAll_nil hA1
  obtain ⟨x0, hx0⟩ := arg_sl 60 diskFuse_ok0 Try.underlying22 (hval 0 22 v0 rfl rfl) h0
  obtain ⟨x1, rfl, hx1⟩ := arg_int Try.underlying3 (hval 1 3 v1 rfl rfl) h1
  refine (calls_of (diskFuse_ok W hx0 x1 hx1)).mono fun e W' ⟨he, hg⟩ => ?_
  subst he
  exact ⟨_, rfl, law_post hW' hg laidOut_ok (by kernel_rfl) rfl Try.underlying4 rfl rfl rfl rfl⟩
theorem diskFuse_joined : joinedFacts Try.prog 5 Try.f5 Rows.diskFuseSpec Rows.diskFuseRow = true := by
  unfold joinedFacts
  rw [laidOut_ok, mapsRowed_ok, stopsHeard_ok, mayEnter_ok, lifts_ok, make_ok]
  kernel_rfl
theorem diskFuse_proved : Rows.DiskFuseSaid :=
  OpenClaim.holds_of_wide 5 Try.f5 rfl rfl rfl rfl rfl rfl rfl ⟨rfl, rfl, rfl, rfl, rfl⟩ rfl rfl rfl rfl rfl (by kernel_rfl) Try.func5 diskFuse_joined
    (of_decide_eq_true (by kernel_rfl)) (by unfold Func.isWrapper; first | (rw [if_pos (by decide +kernel)]; kernel_rfl) | (rw [if_neg (by decide +kernel)]; exact ⟨rfl, rfl⟩))
    (fun os started H enc _ => diskFuse_lifted os started H enc)
#print axioms diskFuse_proved
end
end Go.Proofs.Ytmhalhadgclffaa
