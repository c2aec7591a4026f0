/- Part 5 of the proof of LRunCalls: what it needs of the library, the walks and the plain laws. Conditions: those named in each theorem. -/
import Derived.Test.YtgmdjhdgaddigaaLRunCallsM4
set_option linter.unusedVariables false
set_option linter.unusedSimpArgs false
set_option maxRecDepth 4000
namespace Go.Proofs.Ytgmdjhdgaddigaa
theorem fnOk21 : fnOk Try.prog 21 = true := by kernel_rfl
theorem fnOk54 : fnOk Try.prog 54 = true := by kernel_rfl
theorem fnOk55 : fnOk Try.prog 55 = true := by kernel_rfl
theorem fnOk58 : fnOk Try.prog 58 = true := by kernel_rfl
theorem fnOk59 : fnOk Try.prog 59 = true := by kernel_rfl
theorem fnOk60 : fnOk Try.prog 60 = true := by kernel_rfl
theorem fnOk61 : fnOk Try.prog 61 = true := by kernel_rfl
theorem fnOk85 : fnOk Try.prog 85 = true := by kernel_rfl
theorem tz96 : tz Try.prog 96 = some [.slice none 0 0, .int .i64 0, .bool false] := by kernel_rfl
theorem fin0_rfCheck_ok {P : Prop} (h : P := by congr 1; first | exact (runCheck_long (by omega)).symm | exact (runCheck_arg (by omega) (by omega)).symm | exact (runCheck_ops (by omega) (ups_bad1 ‹d0.2.2[k]? = some _› (by assumption))).symm | exact (runCheck_ops (by omega) (ups_bad2 ‹d0.2.2[k]? = some _› (by omega) (by assumption) (by assumption))).symm | exact (runCheck_good (by omega) (by omega) (by have h_ := hu; rw [List.take_of_length_le (by omega)] at h_; exact h_)).symm) : P := h
theorem rfCheck_ok (W : World) {v0 : List Value} {d0 : DRun} (h0 : Rd TRun (wm W) v0 d0) : CallR Try.prog 21 [.agg v0.toArray] W (mnil) (fun v m' => v = .int .i64 (runCheck d0)) := by
  obtain ⟨p0_A2, p0_c2, rfl, p0_0, p0_1, p0_2⟩ := open_Run (x0 := d0.1) (x1 := d0.2.1) (x2 := d0.2.2) h0
  simp only [inK] at p0_0
  simp only [inK] at p0_1
  have p0_r2 := Rd.room p0_2
  refine CallR.ofA (n := 57) Try.func21 rfl rfl rfl ?_
  refine VC.rs ?_
  refine VO.box (cs := [Value.int .i64 (d0.1), Value.int .i64 (d0.2.1), Value.slice p0_A2 (d0.2.2.length) (p0_c2)]) 102 rfl rfl rfl (fun g1 => ?_)
  refine VO.as ?_
  refine VO.k3 0 1 2 ?_
  refine VC.seq ?_
  refine VC.rs ?_
  refine VO.y rfl (.fa rfl tst32 rfl) ?_
  refine VO.y rfl (.ld1 102 rfl tk30 rfl (cellsAt_one rfl rfl)) ?_
  refine VO.y rfl (.lenS rfl tsl30) ?_
  refine VO.y rfl (.gtr rfl rfl) ?_
  refine VO.k4 0 1 2 7 ?_
  refine VC.cond rfl (fun hc3 => ?_) (fun hc3 => ?_)
  · -- T
    refine VC.rs ?_
    refine VO.as ?_
    refine VO.kp [102, 0] [(102, mone g1 (.cells [Value.int .i64 (d0.1), Value.int .i64 (d0.2.1), Value.slice p0_A2 (d0.2.2.length) (p0_c2)].toArray 32 (0, 0))), (0, wm W)] ?_
    refine VO.k4 0 1 2 7 ?_
    refine VC.ret ?_
    refine outR ?_
    refine ⟨_, _, res_run (rs := [.tmp 2]) rfl (.tmp rfl .nil), fun W_ hI => out_of (l := []) hI [] rfl rfl (mle_refl _) (fun hS_ => ?_)⟩
    dsimp only [packV]
    all_goals (first | rfl | (exact fin0_rfCheck_ok))
  · -- F
    refine VC.skip ?_
    refine outN ?_
    refine VC.seq ?_
    refine VC.rs ?_
    refine VO.y rfl (.fa rfl tst32 rfl) ?_
    refine VO.y rfl (.ld1 102 rfl tk3 rfl (cellsAt_one rfl rfl)) ?_
    refine VO.y rfl (.lss rfl rfl) ?_
    refine VO.mv ?_
    refine VO.dec (t := 11) rfl (fun hc4 => ?_) (fun hc4 => ?_)
    · -- FT
      refine VO.gN ?_
      refine VO.gN ?_
      refine VO.gN ?_
      refine VO.gN ?_
      refine VO.gN ?_
      refine VO.y rfl (.pT rfl rfl) ?_
      refine VO.mv ?_
      refine VO.gN ?_
      refine VO.gN ?_
      refine VO.gN ?_
      refine VO.y rfl (.pT rfl rfl) ?_
      refine VO.kp [102, 0] [(102, mone g1 (.cells [Value.int .i64 (d0.1), Value.int .i64 (d0.2.1), Value.slice p0_A2 (d0.2.2.length) (p0_c2)].toArray 32 (0, 0))), (0, wm W)] ?_
      refine VO.k5 0 1 2 7 22 ?_
      refine VC.condT rfl ?_
      refine VC.rs ?_
      refine VO.as ?_
      refine VO.k5 0 1 2 7 22 ?_
      refine VC.ret ?_
      refine outR ?_
      refine ⟨_, _, res_run (rs := [.tmp 2]) rfl (.tmp rfl .nil), fun W_ hI => out_of (l := []) hI [] rfl rfl (mle_refl _) (fun hS_ => ?_)⟩
      dsimp only [packV]
      all_goals (first | rfl | (exact fin0_rfCheck_ok))
    · -- FF
      refine VO.gy rfl ⟨_, rfl, rfl⟩ (.fa rfl tst32 rfl) ?_
      refine VO.gy rfl ⟨_, rfl, rfl⟩ (.ld1 102 rfl tk3 rfl (cellsAt_one rfl rfl)) ?_
      refine VO.gy rfl ⟨_, rfl, rfl⟩ (.fa rfl tst32 rfl) ?_
      refine VO.gy rfl ⟨_, rfl, rfl⟩ (.ld1 102 rfl tk3 rfl (cellsAt_one rfl rfl)) ?_
      refine VO.gy rfl ⟨_, rfl, rfl⟩ (.lss rfl rfl) ?_
      refine VO.y rfl (.pF rfl rfl) ?_
      refine VO.mv ?_
      refine VO.dec (t := 18) rfl (fun hc5 => ?_) (fun hc5 => ?_)
      · -- FFT
        refine VO.gN ?_
        refine VO.gN ?_
        refine VO.gN ?_
        refine VO.y rfl (.pT rfl rfl) ?_
        refine VO.kp [102, 0] [(102, mone g1 (.cells [Value.int .i64 (d0.1), Value.int .i64 (d0.2.1), Value.slice p0_A2 (d0.2.2.length) (p0_c2)].toArray 32 (0, 0))), (0, wm W)] ?_
        refine VO.k5 0 1 2 7 22 ?_
        refine VC.condT rfl ?_
        refine VC.rs ?_
        refine VO.as ?_
        refine VO.k5 0 1 2 7 22 ?_
        refine VC.ret ?_
        refine outR ?_
        refine ⟨_, _, res_run (rs := [.tmp 2]) rfl (.tmp rfl .nil), fun W_ hI => out_of (l := []) hI [] rfl rfl (mle_refl _) (fun hS_ => ?_)⟩
        dsimp only [packV]
        all_goals (first | rfl | (exact fin0_rfCheck_ok))
      · -- FFF
        refine VO.gy rfl ⟨_, rfl, rfl⟩ (.fa rfl tst32 rfl) ?_
        refine VO.gy rfl ⟨_, rfl, rfl⟩ (.ld1 102 rfl tk3 rfl (cellsAt_one rfl rfl)) ?_
        refine VO.gy rfl ⟨_, rfl, rfl⟩ (.gtr rfl rfl) ?_
        refine VO.y rfl (.pF rfl rfl) ?_
        refine VO.kp [102, 0] [(102, mone g1 (.cells [Value.int .i64 (d0.1), Value.int .i64 (d0.2.1), Value.slice p0_A2 (d0.2.2.length) (p0_c2)].toArray 32 (0, 0))), (0, wm W)] ?_
        refine VO.k5 0 1 2 7 22 ?_
        refine VC.cond rfl (fun hc6 => ?_) (fun hc6 => ?_)
        · -- FFFT
          refine VC.rs ?_
          refine VO.as ?_
          refine VO.k5 0 1 2 7 22 ?_
          refine VC.ret ?_
          refine outR ?_
          refine ⟨_, _, res_run (rs := [.tmp 2]) rfl (.tmp rfl .nil), fun W_ hI => out_of (l := []) hI [] rfl rfl (mle_refl _) (fun hS_ => ?_)⟩
          dsimp only [packV]
          all_goals (first | rfl | (exact fin0_rfCheck_ok))
        · -- FFFF
          refine VC.skip ?_
          refine outN ?_
          refine VC.seq ?_
          refine VC.rs ?_
          refine VO.as ?_
          refine VO.k6 0 1 2 3 7 22 ?_
          refine VC.block ?_
          refine VC.loop (G := Nat) (fun k => [(3, Value.int .i64 (((k : Nat) : Int))), (0, Value.agg [Value.int .i64 (d0.1), Value.int .i64 (d0.2.1), Value.slice p0_A2 (d0.2.2.length) (p0_c2)].toArray), (1, Value.pointer (some ⟨g1, 0, none⟩)), (7, Value.bool (decide (1024 < ((d0.2.2.length : Nat) : Int)))), (22, Value.bool (decide (1048576 < d0.2.1)))]) (fun k => [(102, mone g1 (.cells [Value.int .i64 (d0.1), Value.int .i64 (d0.2.1), Value.slice p0_A2 (d0.2.2.length) (p0_c2)].toArray 32 (0, 0))), (0, wm W)]) (fun k => (k ≤ d0.2.2.length) ∧ (opsUp (d0.2.2.take k))) (fun k => d0.2.2.length - k) 0 (⟨by omega, by exact ups_nil⟩) ⟨⟨rfl, rfl, rfl, rfl, rfl, trivial⟩, fun _ h => h.sub [102, 0]⟩ ?_
          rintro k ⟨hk, hu⟩
          refine VC.seq ?_
          refine VC.rs ?_
          refine VO.mv ?_
          refine VO.y rfl (.fa rfl tst32 rfl) ?_
          refine VO.y rfl (.ld1 102 rfl tk30 rfl (cellsAt_one rfl rfl)) ?_
          refine VO.y rfl (.lenS rfl tsl30) ?_
          refine VO.y rfl (.lss rfl rfl) ?_
          refine VO.k6 0 1 3 7 22 27 ?_
          refine VC.cond rfl (fun hc7 => ?_) (fun hc7 => ?_)
          · -- FFFFT
            refine VC.skip ?_
            refine outN ?_
            refine VC.seq ?_
            refine VC.block ?_
            refine VC.seq ?_
            refine VC.regD _ 24 [(0, true), (1, true), (2, true), (3, true), (4, true), (5, false), (6, true), (7, true), (8, true), (9, true), (10, true), (11, true), (12, true), (13, true), (14, true), (15, true), (16, true), (17, true), (18, true), (19, true), (20, true), (21, true), (22, true), (23, true)] follows (by kernel_rfl) (fun _ h => h.sub [102, 0]) ?_
            refine VD.y rfl rfl (.inl rfl) (.fa rfl tst32 rfl) ?_
            refine VD.y rfl rfl (.inl rfl) (.ld1 102 rfl tk30 rfl (cellsAt_one rfl rfl)) ?_
            refine VD.y rfl rfl (.inl rfl) (.mv rfl) ?_
            obtain ⟨x8, hx8⟩ : ∃ z_, (d0.2.2)[k]? = some z_ := ⟨_, List.getElem?_eq_getElem bd⟩
            obtain ⟨gg8, oo8, ec8, ea8, hce8, hre8⟩ := p0_2.elem hx8
            cases ea8
            obtain ⟨rfl, q8_1, q8_2⟩ := open_Op (x0 := x8.1) (x1 := x8.2.1) (x2 := x8.2.2) hre8
            simp only [maxLen] at q8_1
            simp only [maxLen] at q8_2
            refine VD.y rfl rfl (.inl rfl) (.ixI k rfl rfl tsl30 rfl bd) ?_
            refine VD.y rfl rfl (.inl rfl) (.ldA 0 rfl tk35 rfl hce8) ?_
            refine VD.callN 109 rfl rfl (.inl rfl) fnOk61 rfl (fun _ h => h.sub [102, 0]) (fun W hW => refOpCheck_ok W (Rd.mono hre8 (hW.at (i := 0) rfl))) (fun v9 m9 hv9 => ?_)
            subst hv9
            refine VD.y rfl rfl (.inl rfl) (.neq rfl rfl) ?_
            refine VD.y rfl rfl (.inl rfl) (.mv rfl) ?_
            refine VD.dec (s := 37) rfl (fun hc10 => ?_) (fun hc10 => ?_)
            · -- FFFFTT
              refine VD.gn rfl rfl (.inl ⟨_, rfl, rfl⟩) ?_
              refine VD.gn rfl rfl (.inl ⟨_, rfl, rfl⟩) ?_
              refine VD.gn rfl rfl (.inl ⟨_, rfl, rfl⟩) ?_
              refine VD.gn rfl rfl (.inr ⟨_, rfl, rfl⟩) ?_
              refine VD.gn rfl rfl (.inr ⟨_, rfl, rfl⟩) ?_
              refine VD.gn rfl rfl (.inr ⟨_, rfl, rfl⟩) ?_
              refine VD.gn rfl rfl (.inr ⟨_, rfl, rfl⟩) ?_
              refine VD.gn rfl rfl (.inr ⟨_, rfl, rfl⟩) ?_
              refine VD.gn rfl rfl (.inr ⟨_, rfl, rfl⟩) ?_
              refine VD.gn rfl rfl (.inr ⟨_, rfl, rfl⟩) ?_
              refine VD.gn rfl rfl (.inr ⟨_, rfl, rfl⟩) ?_
              refine VD.gn rfl rfl (.inr ⟨_, rfl, rfl⟩) ?_
              refine VD.gn rfl rfl (.inr ⟨_, rfl, rfl⟩) ?_
              refine VD.gn rfl rfl (.inr ⟨_, rfl, rfl⟩) ?_
              refine VD.gn rfl rfl (.inr ⟨_, rfl, rfl⟩) ?_
              refine VD.gn rfl rfl (.inr ⟨_, rfl, rfl⟩) ?_
              refine VD.nil rfl ?_ rfl
              refine VO.gn rfl (.inr ⟨_, rfl, rfl⟩) ?_
              refine VO.gN ?_
              refine VO.y rfl (.pT rfl rfl) ?_
              refine VO.kp [102, 0] [(102, mone g1 (.cells [Value.int .i64 (d0.1), Value.int .i64 (d0.2.1), Value.slice (some ⟨gg8, oo8, none⟩) (d0.2.2.length) (p0_c2)].toArray 32 (0, 0))), (0, wm W)] ?_
              refine VO.k7 0 1 3 7 22 27 56 ?_
              refine outN ?_
              refine VC.condT rfl ?_
              refine VC.rs ?_
              refine VO.as ?_
              refine VO.k8 0 1 2 3 7 22 27 56 ?_
              refine VC.ret ?_
              refine outBR ?_
              refine outR ?_
              refine outR ?_
              refine outBR ?_
              refine outR ?_
              refine ⟨_, _, res_run (rs := [.tmp 2]) rfl (.tmp rfl .nil), fun W_ hI => out_of (l := []) hI [] rfl rfl (mle_refl _) (fun hS_ => ?_)⟩
              dsimp only [packV]
              all_goals (first | rfl | (exact fin0_rfCheck_ok))
            · -- FFFFTF
              refine VD.y rfl rfl (.inr ⟨_, _, rfl, _, rfl, rfl⟩) (.mv rfl) ?_
              refine VD.y rfl rfl (.inr ⟨_, _, rfl, _, rfl, rfl⟩) (.gtr rfl rfl) ?_
              refine VD.y rfl rfl (.inr ⟨_, _, rfl, _, rfl, rfl⟩) (.mv rfl) ?_
              refine VD.dec (s := 40) rfl (fun hc11 => ?_) (fun hc11 => ?_)
              · -- FFFFTFT
                refine VD.y rfl rfl (.inr ⟨_, _, rfl, _, rfl, rfl⟩) (.fa rfl tst32 rfl) ?_
                refine VD.y rfl rfl (.inr ⟨_, _, rfl, _, rfl, rfl⟩) (.ld1 102 rfl tk30 rfl (cellsAt_one rfl rfl)) ?_
                refine VD.y rfl rfl (.inr ⟨_, _, rfl, _, rfl, rfl⟩) (.mv rfl) ?_
                refine VD.y rfl rfl (.inr ⟨_, _, rfl, _, rfl, rfl⟩) (.ixI k rfl rfl tsl30 rfl bd) ?_
                refine VD.y rfl rfl (.inr ⟨_, _, rfl, _, rfl, rfl⟩) (.fa rfl tst35 rfl) ?_
                refine VD.y rfl rfl (.inr ⟨_, _, rfl, _, rfl, rfl⟩) (.ld1 0 rfl tk9 rfl (hce8.at1 (j := 1) rfl)) ?_
                refine VD.y rfl rfl (.inr ⟨_, _, rfl, _, rfl, rfl⟩) (.fa rfl tst32 rfl) ?_
                refine VD.y rfl rfl (.inr ⟨_, _, rfl, _, rfl, rfl⟩) (.ld1 102 rfl tk30 rfl (cellsAt_one rfl rfl)) ?_
                refine VD.y rfl rfl (.inr ⟨_, _, rfl, _, rfl, rfl⟩) (.mv rfl) ?_
                refine VD.y rfl rfl (.inr ⟨_, _, rfl, _, rfl, rfl⟩) (.sub rfl rfl rfl ⟨bd, bd⟩) ?_
                obtain ⟨x13, hx13⟩ : ∃ z_, (d0.2.2)[(((k : Nat) : Int) - 1).toNat]? = some z_ := ⟨_, List.getElem?_eq_getElem bd⟩
                obtain ⟨gg13, oo13, ec13, ea13, hce13, hre13⟩ := p0_2.elem hx13
                cases ea13
                obtain ⟨rfl, q13_1, q13_2⟩ := open_Op (x0 := x13.1) (x1 := x13.2.1) (x2 := x13.2.2) hre13
                simp only [maxLen] at q13_1
                simp only [maxLen] at q13_2
                refine VD.y rfl rfl (.inr ⟨_, _, rfl, _, rfl, rfl⟩) (.ixI ((((k : Nat) : Int) - 1).toNat) rfl rfl tsl30 bd bd) ?_
                refine VD.y rfl rfl (.inr ⟨_, _, rfl, _, rfl, rfl⟩) (.fa rfl tst35 rfl) ?_
                refine VD.y rfl rfl (.inr ⟨_, _, rfl, _, rfl, rfl⟩) (.ld1 0 rfl tk9 rfl (hce13.at1 (j := 1) rfl)) ?_
                refine VD.nil rfl ?_ rfl
                refine VO.gy rfl ⟨_, rfl, rfl⟩ (.sleq rfl rfl) ?_
                refine VO.gy rfl ⟨_, rfl, rfl⟩ (.pT rfl rfl) ?_
                refine VO.y rfl (.pF rfl rfl) ?_
                refine VO.kp [102, 0] [(102, mone g1 (.cells [Value.int .i64 (d0.1), Value.int .i64 (d0.2.1), Value.slice (some ⟨gg8, oo8, none⟩) (d0.2.2.length) (p0_c2)].toArray 32 (0, 0))), (0, wm W)] ?_
                refine VO.k7 0 1 3 7 22 27 56 ?_
                refine outN ?_
                refine VC.cond rfl (fun hc14 => ?_) (fun hc14 => ?_)
                · -- FFFFTFTT
                  refine VC.rs ?_
                  refine VO.as ?_
                  refine VO.k8 0 1 2 3 7 22 27 56 ?_
                  refine VC.ret ?_
                  refine outBR ?_
                  refine outR ?_
                  refine outR ?_
                  refine outBR ?_
                  refine outR ?_
                  refine ⟨_, _, res_run (rs := [.tmp 2]) rfl (.tmp rfl .nil), fun W_ hI => out_of (l := []) hI [] rfl rfl (mle_refl _) (fun hS_ => ?_)⟩
                  dsimp only [packV]
                  all_goals (first | rfl | (exact fin0_rfCheck_ok))
                · -- FFFFTFTF
                  refine VC.skip ?_
                  refine outBN ?_
                  refine outN ?_
                  refine VC.reg ?_
                  refine VO.mv ?_
                  refine VO.y rfl (.add (c := ((k + 1 : Nat) : Int)) rfl rfl (by omega) ⟨bd, bd⟩) ?_
                  refine VO.as ?_
                  refine VO.k7 0 1 3 7 22 27 56 ?_
                  exact outN ⟨k + 1, ⟨by omega, by exact ups_next hu ‹d0.2.2[k]? = some _› (by assumption) (by first | exact .inl (by omega) | exact .inr ⟨_, by assumption, by assumption⟩)⟩, bd, ⟨⟨rfl, rfl, rfl, rfl, rfl, trivial⟩, fun _ h => Inv.sub h [102, 0]⟩⟩
              · -- FFFFTFF
                refine VD.gn rfl rfl (.inl ⟨_, rfl, rfl⟩) ?_
                refine VD.gn rfl rfl (.inl ⟨_, rfl, rfl⟩) ?_
                refine VD.gn rfl rfl (.inl ⟨_, rfl, rfl⟩) ?_
                refine VD.gn rfl rfl (.inl ⟨_, rfl, rfl⟩) ?_
                refine VD.gn rfl rfl (.inl ⟨_, rfl, rfl⟩) ?_
                refine VD.gn rfl rfl (.inl ⟨_, rfl, rfl⟩) ?_
                refine VD.gn rfl rfl (.inl ⟨_, rfl, rfl⟩) ?_
                refine VD.gn rfl rfl (.inl ⟨_, rfl, rfl⟩) ?_
                refine VD.gn rfl rfl (.inl ⟨_, rfl, rfl⟩) ?_
                refine VD.gn rfl rfl (.inl ⟨_, rfl, rfl⟩) ?_
                refine VD.gn rfl rfl (.inl ⟨_, rfl, rfl⟩) ?_
                refine VD.gn rfl rfl (.inl ⟨_, rfl, rfl⟩) ?_
                refine VD.gn rfl rfl (.inl ⟨_, rfl, rfl⟩) ?_
                refine VD.nil rfl ?_ rfl
                refine VO.gN ?_
                refine VO.gy rfl ⟨_, rfl, rfl⟩ (.pF rfl rfl) ?_
                refine VO.y rfl (.pF rfl rfl) ?_
                refine VO.kp [102, 0] [(102, mone g1 (.cells [Value.int .i64 (d0.1), Value.int .i64 (d0.2.1), Value.slice (some ⟨gg8, oo8, none⟩) (d0.2.2.length) (p0_c2)].toArray 32 (0, 0))), (0, wm W)] ?_
                refine VO.k7 0 1 3 7 22 27 56 ?_
                refine outN ?_
                refine VC.condF rfl ?_
                refine VC.skip ?_
                refine outBN ?_
                refine outN ?_
                refine VC.reg ?_
                refine VO.mv ?_
                refine VO.y rfl (.add (c := ((k + 1 : Nat) : Int)) rfl rfl (by omega) ⟨bd, bd⟩) ?_
                refine VO.as ?_
                refine VO.k7 0 1 3 7 22 27 56 ?_
                exact outN ⟨k + 1, ⟨by omega, by exact ups_next hu ‹d0.2.2[k]? = some _› (by assumption) (by first | exact .inl (by omega) | exact .inr ⟨_, by assumption, by assumption⟩)⟩, bd, ⟨⟨rfl, rfl, rfl, rfl, rfl, trivial⟩, fun _ h => Inv.sub h [102, 0]⟩⟩
          · -- FFFFF
            refine VC.exit ?_
            refine outE ?_
            refine outE ?_
            refine outBB ?_
            refine outN ?_
            refine VC.rs ?_
            refine VO.as ?_
            refine VO.kp [102, 0] [(102, mone g1 (.cells [Value.int .i64 (d0.1), Value.int .i64 (d0.2.1), Value.slice p0_A2 (d0.2.2.length) (p0_c2)].toArray 32 (0, 0))), (0, wm W)] ?_
            refine VO.k7 0 1 2 3 7 22 27 ?_
            refine VC.ret ?_
            refine ⟨_, _, res_run (rs := [.tmp 2]) rfl (.tmp rfl .nil), fun W_ hI => out_of (l := []) hI [] rfl rfl (mle_refl _) (fun hS_ => ?_)⟩
            dsimp only [packV]
            all_goals (first | rfl | (exact fin0_rfCheck_ok))
theorem fin0_rfAppend_ok {P : Prop} (h : P := by first | omega | (simp only [List.length_append, List.length_nil, List.length_cons, List.length_take, List.length_drop] at *; omega) | (have h_ := opCheck_sizes ‹¬ ¬ opCheck d1 = 0›; omega) | (have h_ := opCheck_sizes ‹¬ ¬ opCheck d1 = 0›; simp only [List.length_append, List.length_nil, List.length_cons] at *; omega)) : P := h
theorem rfAppend_ok (W : World) {v0 : Value} {d0 : List UInt8} (h0 : Rd (.sl .byte) (wm W) [v0] d0) {v1 : List Value} {d1 : DOp} (h1 : Rd TOp (wm W) v1 d1) (e0 : d0.length ≤ 140737488351500) : CallR Try.prog 55 [v0, .agg v1.toArray] W (mnil) (fun v m' => ∃ (s0 : Value), v = .tuple #[s0, .int .i64 ((opAppend d0 d1).2)] ∧ Ow (.sl .byte) m' [s0] ((opAppend d0 d1).1)) := by
  obtain ⟨A0, c0, rfl, l0, k0⟩ := h0.slice
  simp only [maxLen] at k0
  obtain ⟨rfl, p1_1, p1_2⟩ := open_Op (x0 := d1.1) (x1 := d1.2.1) (x2 := d1.2.2) h1
  simp only [maxLen] at p1_1
  simp only [maxLen] at p1_2
  refine CallR.ofA (n := 44) Try.func55 rfl rfl rfl ?_
  refine VC.rs ?_
  refine VO.box (cs := [Value.bool d1.1, str (d1.2.1), str (d1.2.2)]) 102 rfl rfl rfl (fun g1 => ?_)
  refine VO.as ?_
  refine VO.as ?_
  refine VO.k5 0 1 3 4 5 ?_
  refine VC.rs ?_
  refine VO.y rfl (.ldA 102 rfl tk35 rfl (cellsAt_one rfl rfl)) ?_
  refine VO.callN 103 rfl fnOk61 rfl (fun W hW => refOpCheck_ok W (Rd.mono h1 (hW.at (i := 0) rfl))) (fun v3 m3 hv3 => ?_)
  subst hv3
  refine VO.as ?_
  refine VO.k6 0 1 3 4 5 6 ?_
  refine VC.seq ?_
  refine VC.rs ?_
  refine VO.mv ?_
  refine VO.y rfl (.neq rfl rfl) ?_
  refine VO.kp [102, 0] [(102, mone g1 (.cells [Value.bool d1.1, str (d1.2.1), str (d1.2.2)].toArray 35 (0, 0))), (0, wm W)] ?_
  refine VO.k7 0 1 3 4 5 6 12 ?_
  refine VC.cond rfl (fun hc4 => ?_) (fun hc4 => ?_)
  · -- T
    refine VC.rs ?_
    refine VO.mv ?_
    refine VO.as ?_
    refine VO.as ?_
    refine VO.k7 0 1 3 4 5 6 12 ?_
    refine VC.ret ?_
    refine outR ?_
    refine ⟨_, _, res_run (rs := [.tmp 4, .tmp 5]) rfl (.tmp rfl (.tmp rfl .nil)), fun W_ hI => out_of (l := []) hI [] rfl rfl (mle_refl _) (fun hS_ => ?_)⟩
    dsimp only [packV]
    have he0 : ((opAppend d0 d1).1 : Ty.Den (.sl .byte)) = [] := by first | rfl | (first | (rw [opAppend_bad (by assumption)] <;> first | rfl | done) | (rw [opAppend_put (by assumption) (by assumption)] <;> first | done | rfl | (simp [opKind, *]; done)) | (rw [opAppend_del (by assumption) (by assumption)] <;> first | done | rfl | (simp [opKind, *]; done)))
    refine ⟨Value.slice none (0) (0), ?_, ?_⟩
    rotate_left
    · rw [he0]; exact (Ow.nil _ _)
    all_goals (first | rfl | (first | (rw [opAppend_bad (by assumption)] <;> first | rfl | done) | (rw [opAppend_put (by assumption) (by assumption)] <;> first | done | rfl | (simp [opKind, *]; done)) | (rw [opAppend_del (by assumption) (by assumption)] <;> first | done | rfl | (simp [opKind, *]; done))))
  · -- F
    refine VC.skip ?_
    refine outN ?_
    refine VC.rs ?_
    refine VO.as ?_
    refine VO.k8 0 1 3 4 5 6 7 12 ?_
    refine VC.rs ?_
    refine VO.mv ?_
    refine VO.mv ?_
    refine VO.inv _ (fun _ h => h.nilc 106) ?_
    obtain ⟨mo5, cs5, hM5, hA5, hC5⟩ := (OwnL.nil .byte mnil mnil)
    obtain ⟨all5, hS5, hR5⟩ := Rd.srcI (P := Try.prog) (h0) Try.underlying38
    refine VO.app 106 rfl rfl rfl tsl38 tz5 rfl rfl hM5 hA5 (hS5 _ 0 rfl) hR5.nice (by simp only [maxLen]; (exact fin0_rfAppend_ok)) (by exact fin0_rfAppend_ok) (by decide) (fun v5 m5 hN5 => ?_)
    have ho5 : OwnL .byte m5 mnil v5 (d0) := OwnL.more hC5 hN5 (All2c.mono hR5 fun _ _ h => Rd.flat rfl h _)
    obtain ⟨A5, c5, rfl, l5, k5⟩ := ho5.slice
    simp only [maxLen] at k5
    refine VO.as ?_
    refine VO.k8 0 1 3 4 5 6 7 12 ?_
    refine VC.rs ?_
    refine VO.as ?_
    refine VO.kp [106, 102, 0] [(106, m5), (102, mone g1 (.cells [Value.bool d1.1, str (d1.2.1), str (d1.2.2)].toArray 35 (0, 0))), (0, wm W)] ?_
    refine VO.k9 0 1 3 4 5 6 7 8 12 ?_
    refine VC.seq ?_
    refine VC.rs ?_
    refine VO.y rfl (.fa rfl tst35 rfl) ?_
    refine VO.y rfl (.ld1 102 rfl tk4 rfl (cellsAt_one rfl rfl)) ?_
    refine VO.k10 0 1 3 4 5 6 7 8 12 18 ?_
    refine VC.condB rfl (fun hc7 => ?_) (fun hc7 => ?_)
    · -- FT
      refine VC.reg ?_
      refine VO.as ?_
      refine VO.k10 0 1 3 4 5 6 7 8 12 18 ?_
      refine outN ?_
      refine VC.rs ?_
      refine VO.mv ?_
      refine VO.mv ?_
      refine VO.bsl (cs := [Value.int .u8 (1)]) 109 rfl rfl tsl38 tz5 rfl rfl (fun g8 => ?_)
      obtain ⟨mo10, cs10, hM10, hA10, hC10⟩ := ho5
      refine VO.app 106 rfl rfl rfl tsl38 tz5 rfl rfl hM10 hA10 (.row 109 _ _ _ 1 1 _ _ Try.underlying38 rfl (cellsAt_one rfl rfl)) (by simp [Value.oneCell']) (by simp only [maxLen]; (exact fin0_rfAppend_ok)) (by exact fin0_rfAppend_ok) (by decide) (fun v10 m10 hN10 => ?_)
      have ho10 : OwnL .byte m10 mnil v10 (d0 ++ [UInt8.ofNat 1]) := OwnL.one hC10 hN10 (rd_byteN (by exact fin0_rfAppend_ok))
      obtain ⟨A10, c10, rfl, l10, k10⟩ := ho10.slice
      simp only [maxLen] at k10
      refine VO.as ?_
      refine VO.kp [106, 102, 0] [(106, m10), (102, mone g1 (.cells [Value.bool d1.1, str (d1.2.1), str (d1.2.2)].toArray 35 (0, 0))), (0, wm W)] ?_
      refine VO.k10 0 1 3 4 5 6 7 8 12 18 ?_
      refine VC.rs ?_
      refine VO.mv ?_
      refine VO.y rfl (.fa rfl tst35 rfl) ?_
      refine VO.y rfl (.ld1 102 rfl tk9 rfl (cellsAt_one rfl rfl)) ?_
      refine VO.y rfl (.lenT rfl Try.underlying9) ?_
      refine VO.callN 111 rfl fnOk54 rfl (fun W hW => rPut_ok W (OwnL.rd ho10 (hW.at (i := 106) rfl) (mle_nil _)) ((d1.2.1.length : Nat) : Int) (by simp only [inK]; (exact fin0_rfAppend_ok)) (by exact fin0_rfAppend_ok) (by exact fin0_rfAppend_ok)) (fun v11 m11 hv11 => ?_)
      obtain ⟨s11_0, rfl, f11_0⟩ := hv11
      have hfa12 := venc_len (x := ((d1.2.1.length : Nat) : Int).toNat) (by omega)
      obtain ⟨A11_0, c11_0, eq11_0, l11_0, k11_0⟩ := f11_0.slice
      subst eq11_0
      simp only [maxLen] at k11_0
      refine VO.as ?_
      refine VO.k10 0 1 3 4 5 6 7 8 12 18 ?_
      refine VC.rs ?_
      refine VO.mv ?_
      refine VO.y rfl (.fa rfl tst35 rfl) ?_
      refine VO.y rfl (.ld1 102 rfl tk9 rfl (cellsAt_one rfl rfl)) ?_
      obtain ⟨mo13, cs13, hM13, hA13, hC13⟩ := (Ow.ownl f11_0 rfl mnil)
      refine VO.app 111 rfl rfl rfl tsl38 tz5 rfl rfl hM13 hA13 (.str _ Try.underlying9 rfl) (byV_nice _) (by simp only [maxLen]; (exact fin0_rfAppend_ok)) (by exact fin0_rfAppend_ok) (by decide) (fun v13 m13 hN13 => ?_)
      have ho13 : OwnL .byte m13 mnil v13 (((d0 ++ [UInt8.ofNat 1]) ++ venc ((d1.2.1.length : Nat) : Int).toNat) ++ d1.2.1) := OwnL.more hC13 hN13 (rd_str _ _)
      obtain ⟨A13, c13, rfl, l13, k13⟩ := ho13.slice
      simp only [maxLen] at k13
      refine VO.as ?_
      refine VO.k10 0 1 3 4 5 6 7 8 12 18 ?_
      refine VC.seq ?_
      refine VC.rs ?_
      refine VO.y rfl (.fa rfl tst35 rfl) ?_
      refine VO.y rfl (.ld1 102 rfl tk4 rfl (cellsAt_one rfl rfl)) ?_
      refine VO.kp [111, 102, 0] [(111, m13), (102, mone g1 (.cells [Value.bool d1.1, str (d1.2.1), str (d1.2.2)].toArray 35 (0, 0))), (0, wm W)] ?_
      refine VO.k11 0 1 3 4 5 6 7 8 12 18 33 ?_
      refine VC.condKT rfl hc7 ?_
      refine VC.rs ?_
      refine VO.mv ?_
      refine VO.y rfl (.fa rfl tst35 rfl) ?_
      refine VO.y rfl (.ld1 102 rfl tk9 rfl (cellsAt_one rfl rfl)) ?_
      refine VO.y rfl (.lenT rfl Try.underlying9) ?_
      refine VO.callN 114 rfl fnOk54 rfl (fun W hW => rPut_ok W (OwnL.rd ho13 (hW.at (i := 111) rfl) (mle_nil _)) ((d1.2.2.length : Nat) : Int) (by simp only [inK]; (exact fin0_rfAppend_ok)) (by exact fin0_rfAppend_ok) (by exact fin0_rfAppend_ok)) (fun v14 m14 hv14 => ?_)
      obtain ⟨s14_0, rfl, f14_0⟩ := hv14
      have hfa15 := venc_len (x := ((d1.2.2.length : Nat) : Int).toNat) (by omega)
      obtain ⟨A14_0, c14_0, eq14_0, l14_0, k14_0⟩ := f14_0.slice
      subst eq14_0
      simp only [maxLen] at k14_0
      refine VO.as ?_
      refine VO.k11 0 1 3 4 5 6 7 8 12 18 33 ?_
      refine VC.reg ?_
      refine VO.mv ?_
      refine VO.y rfl (.fa rfl tst35 rfl) ?_
      refine VO.y rfl (.ld1 102 rfl tk9 rfl (cellsAt_one rfl rfl)) ?_
      obtain ⟨mo16, cs16, hM16, hA16, hC16⟩ := (Ow.ownl f14_0 rfl mnil)
      refine VO.app 114 rfl rfl rfl tsl38 tz5 rfl rfl hM16 hA16 (.str _ Try.underlying9 rfl) (byV_nice _) (by simp only [maxLen]; (exact fin0_rfAppend_ok)) (by exact fin0_rfAppend_ok) (by decide) (fun v16 m16 hN16 => ?_)
      have ho16 : OwnL .byte m16 mnil v16 (((((d0 ++ [UInt8.ofNat 1]) ++ venc ((d1.2.1.length : Nat) : Int).toNat) ++ d1.2.1) ++ venc ((d1.2.2.length : Nat) : Int).toNat) ++ d1.2.2) := OwnL.more hC16 hN16 (rd_str _ _)
      obtain ⟨A16, c16, rfl, l16, k16⟩ := ho16.slice
      simp only [maxLen] at k16
      refine VO.as ?_
      refine VO.k11 0 1 3 4 5 6 7 8 12 18 33 ?_
      refine outN ?_
      refine VC.rs ?_
      refine VO.mv ?_
      refine VO.as ?_
      refine VO.as ?_
      refine VO.kp [114, 102, 0] [(114, m16), (102, mone g1 (.cells [Value.bool d1.1, str (d1.2.1), str (d1.2.2)].toArray 35 (0, 0))), (0, wm W)] ?_
      refine VO.k11 0 1 3 4 5 6 7 8 12 18 33 ?_
      refine VC.ret ?_
      refine ⟨_, _, res_run (rs := [.tmp 4, .tmp 5]) rfl (.tmp rfl (.tmp rfl .nil)), fun W_ hI => out_of (l := [m16]) hI [114] rfl rfl (mle_refl _) (fun hS_ => ?_)⟩
      dsimp only [packV]
      have he0 : ((opAppend d0 d1).1 : Ty.Den (.sl .byte)) = ((((d0 ++ [UInt8.ofNat 1]) ++ venc ((d1.2.1.length : Nat) : Int).toNat) ++ d1.2.1) ++ venc ((d1.2.2.length : Nat) : Int).toNat) ++ d1.2.2 := by first | rfl | (first | (rw [opAppend_bad (by assumption)] <;> first | rfl | done) | (rw [opAppend_put (by assumption) (by assumption)] <;> first | done | rfl | (simp [opKind, *]; done)) | (rw [opAppend_del (by assumption) (by assumption)] <;> first | done | rfl | (simp [opKind, *]; done)))
      refine ⟨Value.slice A16 ((((((d0 ++ [UInt8.ofNat 1]) ++ venc ((d1.2.1.length : Nat) : Int).toNat) ++ d1.2.1) ++ venc ((d1.2.2.length : Nat) : Int).toNat) ++ d1.2.2).length) (c16), ?_, ?_⟩
      rotate_left
      · rw [he0]; exact (Ow.up (OwnL.ow ho16 rfl) (hS_.1 _ (.head _)))
      all_goals (first | rfl | (first | (rw [opAppend_bad (by assumption)] <;> first | rfl | done) | (rw [opAppend_put (by assumption) (by assumption)] <;> first | done | rfl | (simp [opKind, *]; done)) | (rw [opAppend_del (by assumption) (by assumption)] <;> first | done | rfl | (simp [opKind, *]; done))))
    · -- FF
      refine VC.skip ?_
      refine outN ?_
      refine VC.rs ?_
      refine VO.mv ?_
      refine VO.mv ?_
      refine VO.bsl (cs := [Value.int .u8 (0)]) 118 rfl rfl tsl38 tz5 rfl rfl (fun g17 => ?_)
      obtain ⟨mo19, cs19, hM19, hA19, hC19⟩ := ho5
      refine VO.app 106 rfl rfl rfl tsl38 tz5 rfl rfl hM19 hA19 (.row 118 _ _ _ 1 1 _ _ Try.underlying38 rfl (cellsAt_one rfl rfl)) (by simp [Value.oneCell']) (by simp only [maxLen]; (exact fin0_rfAppend_ok)) (by exact fin0_rfAppend_ok) (by decide) (fun v19 m19 hN19 => ?_)
      have ho19 : OwnL .byte m19 mnil v19 (d0 ++ [UInt8.ofNat 0]) := OwnL.one hC19 hN19 (rd_byteN (by exact fin0_rfAppend_ok))
      obtain ⟨A19, c19, rfl, l19, k19⟩ := ho19.slice
      simp only [maxLen] at k19
      refine VO.as ?_
      refine VO.k10 0 1 3 4 5 6 7 8 12 18 ?_
      refine VC.rs ?_
      refine VO.mv ?_
      refine VO.y rfl (.fa rfl tst35 rfl) ?_
      refine VO.y rfl (.ld1 102 rfl tk9 rfl (cellsAt_one rfl rfl)) ?_
      refine VO.y rfl (.lenT rfl Try.underlying9) ?_
      refine VO.callN 120 rfl fnOk54 rfl (fun W hW => rPut_ok W (OwnL.rd ho19 (hW.at (i := 106) rfl) (mle_nil _)) ((d1.2.1.length : Nat) : Int) (by simp only [inK]; (exact fin0_rfAppend_ok)) (by exact fin0_rfAppend_ok) (by exact fin0_rfAppend_ok)) (fun v20 m20 hv20 => ?_)
      obtain ⟨s20_0, rfl, f20_0⟩ := hv20
      have hfa21 := venc_len (x := ((d1.2.1.length : Nat) : Int).toNat) (by omega)
      obtain ⟨A20_0, c20_0, eq20_0, l20_0, k20_0⟩ := f20_0.slice
      subst eq20_0
      simp only [maxLen] at k20_0
      refine VO.as ?_
      refine VO.kp [120, 102, 0] [(120, m20), (102, mone g1 (.cells [Value.bool d1.1, str (d1.2.1), str (d1.2.2)].toArray 35 (0, 0))), (0, wm W)] ?_
      refine VO.k10 0 1 3 4 5 6 7 8 12 18 ?_
      refine VC.rs ?_
      refine VO.mv ?_
      refine VO.y rfl (.fa rfl tst35 rfl) ?_
      refine VO.y rfl (.ld1 102 rfl tk9 rfl (cellsAt_one rfl rfl)) ?_
      obtain ⟨mo22, cs22, hM22, hA22, hC22⟩ := (Ow.ownl f20_0 rfl mnil)
      refine VO.app 120 rfl rfl rfl tsl38 tz5 rfl rfl hM22 hA22 (.str _ Try.underlying9 rfl) (byV_nice _) (by simp only [maxLen]; (exact fin0_rfAppend_ok)) (by exact fin0_rfAppend_ok) (by decide) (fun v22 m22 hN22 => ?_)
      have ho22 : OwnL .byte m22 mnil v22 (((d0 ++ [UInt8.ofNat 0]) ++ venc ((d1.2.1.length : Nat) : Int).toNat) ++ d1.2.1) := OwnL.more hC22 hN22 (rd_str _ _)
      obtain ⟨A22, c22, rfl, l22, k22⟩ := ho22.slice
      simp only [maxLen] at k22
      refine VO.as ?_
      refine VO.k10 0 1 3 4 5 6 7 8 12 18 ?_
      refine VC.seq ?_
      refine VC.rs ?_
      refine VO.y rfl (.fa rfl tst35 rfl) ?_
      refine VO.y rfl (.ld1 102 rfl tk4 rfl (cellsAt_one rfl rfl)) ?_
      refine VO.k11 0 1 3 4 5 6 7 8 12 18 33 ?_
      refine VC.condKF rfl hc7 ?_
      refine VC.skip ?_
      refine outN ?_
      refine VC.rs ?_
      refine VO.mv ?_
      refine VO.as ?_
      refine VO.as ?_
      refine VO.kp [120, 102, 0] [(120, m22), (102, mone g1 (.cells [Value.bool d1.1, str (d1.2.1), str (d1.2.2)].toArray 35 (0, 0))), (0, wm W)] ?_
      refine VO.k11 0 1 3 4 5 6 7 8 12 18 33 ?_
      refine VC.ret ?_
      refine ⟨_, _, res_run (rs := [.tmp 4, .tmp 5]) rfl (.tmp rfl (.tmp rfl .nil)), fun W_ hI => out_of (l := [m22]) hI [120] rfl rfl (mle_refl _) (fun hS_ => ?_)⟩
      dsimp only [packV]
      have he0 : ((opAppend d0 d1).1 : Ty.Den (.sl .byte)) = ((d0 ++ [UInt8.ofNat 0]) ++ venc ((d1.2.1.length : Nat) : Int).toNat) ++ d1.2.1 := by first | rfl | (first | (rw [opAppend_bad (by assumption)] <;> first | rfl | done) | (rw [opAppend_put (by assumption) (by assumption)] <;> first | done | rfl | (simp [opKind, *]; done)) | (rw [opAppend_del (by assumption) (by assumption)] <;> first | done | rfl | (simp [opKind, *]; done)))
      refine ⟨Value.slice A22 ((((d0 ++ [UInt8.ofNat 0]) ++ venc ((d1.2.1.length : Nat) : Int).toNat) ++ d1.2.1).length) (c22), ?_, ?_⟩
      rotate_left
      · rw [he0]; exact (Ow.up (OwnL.ow ho22 rfl) (hS_.1 _ (.head _)))
      all_goals (first | rfl | (first | (rw [opAppend_bad (by assumption)] <;> first | rfl | done) | (rw [opAppend_put (by assumption) (by assumption)] <;> first | done | rfl | (simp [opKind, *]; done)) | (rw [opAppend_del (by assumption) (by assumption)] <;> first | done | rfl | (simp [opKind, *]; done))))
theorem rfEncode_ok (W : World) {v0 : List Value} {d0 : DRun} (h0 : Rd TRun (wm W) v0 d0) : CallR Try.prog 18 [.agg v0.toArray] W (mnil) (fun v m' => ∃ (s0 : Value), v = .tuple #[s0, .int .i64 ((runEncode d0).2)] ∧ Ow (.sl .byte) m' [s0] ((runEncode d0).1)) := by
  have hrk := runCheck_or d0
  obtain ⟨p0_A2, p0_c2, rfl, p0_0, p0_1, p0_2⟩ := open_Run (x0 := d0.1) (x1 := d0.2.1) (x2 := d0.2.2) h0
  simp only [inK] at p0_0
  simp only [inK] at p0_1
  have p0_r2 := Rd.room p0_2
  refine CallR.ofA (n := 42) Try.func18 rfl rfl rfl ?_
  refine VC.rs ?_
  refine VO.box (cs := [Value.int .i64 (d0.1), Value.int .i64 (d0.2.1), Value.slice p0_A2 (d0.2.2.length) (p0_c2)]) 102 rfl rfl rfl (fun g1 => ?_)
  refine VO.as ?_
  refine VO.as ?_
  refine VO.k4 0 1 2 3 ?_
  refine VC.rs ?_
  refine VO.y rfl (.ldA 102 rfl tk32 rfl (cellsAt_one rfl rfl)) ?_
  refine VO.callN 103 rfl fnOk21 rfl (fun W hW => rfCheck_ok W (Rd.mono h0 (hW.at (i := 0) rfl))) (fun v3 m3 hv3 => ?_)
  subst hv3
  have hfa4 := runCheck_range d0
  refine VO.as ?_
  refine VO.k5 0 1 2 3 4 ?_
  refine VC.seq ?_
  refine VC.rs ?_
  refine VO.mv ?_
  refine VO.y rfl (.neq rfl rfl) ?_
  refine VO.kp [102, 0] [(102, mone g1 (.cells [Value.int .i64 (d0.1), Value.int .i64 (d0.2.1), Value.slice p0_A2 (d0.2.2.length) (p0_c2)].toArray 32 (0, 0))), (0, wm W)] ?_
  refine VO.k6 0 1 2 3 4 10 ?_
  refine VC.cond rfl (fun hc5 => ?_) (fun hc5 => ?_)
  · -- T
    refine VC.rs ?_
    refine VO.mv ?_
    refine VO.as ?_
    refine VO.as ?_
    refine VO.k6 0 1 2 3 4 10 ?_
    refine VC.ret ?_
    refine outR ?_
    refine ⟨_, _, res_run (rs := [.tmp 2, .tmp 3]) rfl (.tmp rfl (.tmp rfl .nil)), fun W_ hI => out_of (l := []) hI [] rfl rfl (mle_refl _) (fun hS_ => ?_)⟩
    dsimp only [packV]
    have he0 : ((runEncode d0).1 : Ty.Den (.sl .byte)) = [] := by first | rfl | (first | (rw [runEnc_bad (by assumption)] <;> rfl) | (rw [runEnc_good (by assumption), hb, List.take_of_length_le (by omega)]; simp [runBody]; done))
    refine ⟨Value.slice none (0) (0), ?_, ?_⟩
    rotate_left
    · rw [he0]; exact (Ow.nil _ _)
    all_goals (first | rfl | (first | (rw [runEnc_bad (by assumption)] <;> rfl) | (rw [runEnc_good (by assumption)] <;> rfl)))
  · -- F
    refine VC.skip ?_
    refine outN ?_
    refine VC.rs ?_
    refine VO.y rfl (.fa rfl tst32 rfl) ?_
    refine VO.y rfl (.ld1 102 rfl tk3 rfl (cellsAt_one rfl rfl)) ?_
    refine VO.callN 106 rfl fnOk54 rfl (fun W hW => rPut_ok W (Rd.nil _ _ none 0 (Nat.zero_le _)) d0.1 bdk bd bd) (fun v6 m6 hv6 => ?_)
    obtain ⟨s6_0, rfl, f6_0⟩ := hv6
    have hfa7 := venc_len (x := d0.1.toNat) (by omega)
    simp only [List.nil_append] at f6_0
    obtain ⟨A6_0, c6_0, eq6_0, l6_0, k6_0⟩ := f6_0.slice
    subst eq6_0
    simp only [maxLen] at k6_0
    refine VO.as ?_
    refine VO.k7 0 1 2 3 4 5 10 ?_
    refine VC.rs ?_
    refine VO.mv ?_
    refine VO.y rfl (.fa rfl tst32 rfl) ?_
    refine VO.y rfl (.ld1 102 rfl tk3 rfl (cellsAt_one rfl rfl)) ?_
    refine VO.callN 108 rfl fnOk54 rfl (fun W hW => rPut_ok W (OwnL.rd (Ow.ownl f6_0 rfl mnil) (hW.at (i := 106) rfl) (mle_nil _)) d0.2.1 bdk bd bd) (fun v8 m8 hv8 => ?_)
    obtain ⟨s8_0, rfl, f8_0⟩ := hv8
    have hfa9 := venc_len (x := d0.2.1.toNat) (by omega)
    obtain ⟨A8_0, c8_0, eq8_0, l8_0, k8_0⟩ := f8_0.slice
    subst eq8_0
    simp only [maxLen] at k8_0
    refine VO.as ?_
    refine VO.k7 0 1 2 3 4 5 10 ?_
    refine VC.rs ?_
    refine VO.mv ?_
    refine VO.y rfl (.fa rfl tst32 rfl) ?_
    refine VO.y rfl (.ld1 102 rfl tk30 rfl (cellsAt_one rfl rfl)) ?_
    refine VO.y rfl (.lenS rfl tsl30) ?_
    refine VO.callN 110 rfl fnOk54 rfl (fun W hW => rPut_ok W (OwnL.rd (Ow.ownl f8_0 rfl mnil) (hW.at (i := 108) rfl) (mle_nil _)) ((d0.2.2.length : Nat) : Int) bdk bd bd) (fun v10 m10 hv10 => ?_)
    obtain ⟨s10_0, rfl, f10_0⟩ := hv10
    have hfa11 := venc_len (x := ((d0.2.2.length : Nat) : Int).toNat) (by omega)
    obtain ⟨A10_0, c10_0, eq10_0, l10_0, k10_0⟩ := f10_0.slice
    subst eq10_0
    simp only [maxLen] at k10_0
    refine VO.as ?_
    refine VO.kp [110, 102, 0] [(110, m10), (102, mone g1 (.cells [Value.int .i64 (d0.1), Value.int .i64 (d0.2.1), Value.slice p0_A2 (d0.2.2.length) (p0_c2)].toArray 32 (0, 0))), (0, wm W)] ?_
    refine VO.k7 0 1 2 3 4 5 10 ?_
    refine VC.seq ?_
    refine VC.rs ?_
    refine VO.as ?_
    refine VO.k8 0 1 2 3 4 5 6 10 ?_
    refine VC.block ?_
    refine VC.loop (G := Nat × (List UInt8) × (Option Addr) × Nat × Mem) (fun g => [(5, Value.slice (g.2.2.1) ((g.2.1).length) ((g.2.2.2.1))), (6, Value.int .i64 ((((g.1) : Nat) : Int))), (0, Value.agg [Value.int .i64 (d0.1), Value.int .i64 (d0.2.1), Value.slice p0_A2 (d0.2.2.length) (p0_c2)].toArray), (1, Value.pointer (some ⟨g1, 0, none⟩)), (2, Value.slice none (0) (0)), (3, Value.int .i64 (0)), (4, Value.int .i64 (runCheck d0)), (10, Value.bool (decide (¬ (runCheck d0) = 0)))]) (fun g => [(110, (g.2.2.2.2)), (102, mone g1 (.cells [Value.int .i64 (d0.1), Value.int .i64 (d0.2.1), Value.slice p0_A2 (d0.2.2.length) (p0_c2)].toArray 32 (0, 0))), (0, wm W)]) (fun g => ((g.1) ≤ d0.2.2.length) ∧ ((g.2.1) = venc d0.1.toNat ++ (venc d0.2.1.toNat ++ venc d0.2.2.length) ++ ((d0.2.2.take (g.1)).map opEnc).flatten) ∧ (OwnL .byte (g.2.2.2.2) mnil (.slice (g.2.2.1) (g.2.1).length (g.2.2.2.1)) (g.2.1))) (fun g => d0.2.2.length - (g.1)) (0, ((venc d0.1.toNat) ++ venc d0.2.1.toNat) ++ venc ((d0.2.2.length : Nat) : Int).toNat, A10_0, c10_0, m10) (⟨by omega, by simp, (Ow.ownl f10_0 rfl mnil)⟩) ⟨⟨rfl, rfl, rfl, rfl, rfl, rfl, rfl, rfl, trivial⟩, fun _ h => h.sub [110, 102, 0]⟩ ?_
    rintro ⟨k, b, b_A, b_c, b_m⟩ ⟨hk, hb, h_b⟩
    replace hk : k ≤ d0.2.2.length := hk
    replace hb : b = venc d0.1.toNat ++ (venc d0.2.1.toNat ++ venc d0.2.2.length) ++ ((d0.2.2.take k).map opEnc).flatten := hb
    replace h_b : OwnL .byte b_m mnil (.slice b_A b.length b_c) b := h_b
    show VC _ _ _ _ _ [(5, Value.slice b_A (b.length) (b_c)), (6, Value.int .i64 (((k : Nat) : Int))), (0, Value.agg [Value.int .i64 (d0.1), Value.int .i64 (d0.2.1), Value.slice p0_A2 (d0.2.2.length) (p0_c2)].toArray), (1, Value.pointer (some ⟨g1, 0, none⟩)), (2, Value.slice none (0) (0)), (3, Value.int .i64 (0)), (4, Value.int .i64 (runCheck d0)), (10, Value.bool (decide (¬ (runCheck d0) = 0)))] [(110, b_m), (102, mone g1 (.cells [Value.int .i64 (d0.1), Value.int .i64 (d0.2.1), Value.slice p0_A2 (d0.2.2.length) (p0_c2)].toArray 32 (0, 0))), (0, wm W)]
    have l_b : b.length ≤ b_c := by obtain ⟨_, _, he, hl, _⟩ := h_b.slice; simp only [Value.slice.injEq] at he; omega
    have k_b : b_c ≤ 9223372036854775807 := by obtain ⟨_, _, he, _, hl⟩ := h_b.slice; simp only [Value.slice.injEq, maxLen] at he hl; omega
    have rk := runCheck_ok (Decidable.not_not.1 ‹¬ ¬ runCheck d0 = 0›)
    have hbl : b.length ≤ 30 + 60 * k := by (have h1_ := encs_len (l := d0.2.2.take k) (fun o ho => rk.2.2.2.2.1 o (List.mem_of_mem_take ho)); have h2_ := venc_short (x := d0.1.toNat) (by omega); have h3_ := venc_short (x := d0.2.1.toNat) (by omega); have h4_ := venc_short (x := d0.2.2.length) (by omega); rw [hb]; simp only [List.length_append, List.length_take] at *; omega)
    refine VC.seq ?_
    refine VC.rs ?_
    refine VO.mv ?_
    refine VO.y rfl (.fa rfl tst32 rfl) ?_
    refine VO.y rfl (.ld1 102 rfl tk30 rfl (cellsAt_one rfl rfl)) ?_
    refine VO.y rfl (.lenS rfl tsl30) ?_
    refine VO.y rfl (.lss rfl rfl) ?_
    refine VO.k9 0 1 2 3 4 5 6 10 28 ?_
    refine VC.cond rfl (fun hc12 => ?_) (fun hc12 => ?_)
    · -- FT
      refine VC.skip ?_
      refine outN ?_
      refine VC.seq ?_
      refine VC.block ?_
      refine VC.reg ?_
      refine VO.mv ?_
      refine VO.y rfl (.fa rfl tst32 rfl) ?_
      refine VO.y rfl (.ld1 102 rfl tk30 rfl (cellsAt_one rfl rfl)) ?_
      refine VO.mv ?_
      obtain ⟨x13, hx13⟩ : ∃ z_, (d0.2.2)[k]? = some z_ := ⟨_, List.getElem?_eq_getElem bd⟩
      obtain ⟨gg13, oo13, ec13, ea13, hce13, hre13⟩ := p0_2.elem hx13
      cases ea13
      obtain ⟨rfl, q13_1, q13_2⟩ := open_Op (x0 := x13.1) (x1 := x13.2.1) (x2 := x13.2.2) hre13
      simp only [maxLen] at q13_1
      simp only [maxLen] at q13_2
      refine VO.y rfl (.ixI k rfl rfl tsl30 rfl bd) ?_
      refine VO.y rfl (.ldA 0 rfl tk35 rfl hce13) ?_
      refine VO.callN 114 rfl fnOk55 rfl (fun W hW => rfAppend_ok W (OwnL.rd h_b (hW.at (i := 110) rfl) (mle_nil _)) (Rd.mono hre13 (hW.at (i := 0) rfl)) bd) (fun v14 m14 hv14 => ?_)
      obtain ⟨s14_0, rfl, f14_0⟩ := hv14
      have hfa15 := opAppend_len b x13
      obtain ⟨A14_0, c14_0, eq14_0, l14_0, k14_0⟩ := f14_0.slice
      subst eq14_0
      simp only [maxLen] at k14_0
      refine VO.mv ?_
      refine VO.y rfl (.ext rfl rfl) ?_
      refine VO.y rfl (.ext rfl rfl) ?_
      refine VO.as ?_
      refine VO.kp [114, 102, 0] [(114, m14), (102, mone g1 (.cells [Value.int .i64 (d0.1), Value.int .i64 (d0.2.1), Value.slice (some ⟨gg13, oo13, none⟩) (d0.2.2.length) (p0_c2)].toArray 32 (0, 0))), (0, wm W)] ?_
      refine VO.k9 0 1 2 3 4 5 6 10 28 ?_
      refine outBN ?_
      refine outN ?_
      refine VC.reg ?_
      refine VO.mv ?_
      refine VO.y rfl (.add (c := ((k + 1 : Nat) : Int)) rfl rfl (by omega) ⟨bd, bd⟩) ?_
      refine VO.as ?_
      refine VO.k9 0 1 2 3 4 5 6 10 28 ?_
      exact outN ⟨⟨k + 1, (opAppend b x13).1, A14_0, c14_0, m14⟩, ⟨by omega, by (rw [hb]; exact encs_next ‹d0.2.2[k]? = some _› (rk.2.2.2.2.1 _ (List.mem_of_getElem? ‹d0.2.2[k]? = some _›))), (Ow.ownl f14_0 rfl mnil)⟩, bd, ⟨⟨rfl, rfl, rfl, rfl, rfl, rfl, rfl, rfl, trivial⟩, fun _ h => Inv.sub (Inv.num h 114 110 rfl) [110, 102, 0]⟩⟩
    · -- FF
      refine VC.exit ?_
      refine outE ?_
      refine outE ?_
      refine outBB ?_
      refine outN ?_
      refine VC.rs ?_
      refine VO.mv ?_
      refine VO.as ?_
      refine VO.as ?_
      refine VO.kp [110, 102, 0] [(110, b_m), (102, mone g1 (.cells [Value.int .i64 (d0.1), Value.int .i64 (d0.2.1), Value.slice p0_A2 (d0.2.2.length) (p0_c2)].toArray 32 (0, 0))), (0, wm W)] ?_
      refine VO.k9 0 1 2 3 4 5 6 10 28 ?_
      refine VC.ret ?_
      refine ⟨_, _, res_run (rs := [.tmp 2, .tmp 3]) rfl (.tmp rfl (.tmp rfl .nil)), fun W_ hI => out_of (l := [b_m]) hI [110] rfl rfl (mle_refl _) (fun hS_ => ?_)⟩
      dsimp only [packV]
      have he0 : ((runEncode d0).1 : Ty.Den (.sl .byte)) = b := by first | rfl | (first | (rw [runEnc_bad (by assumption)] <;> rfl) | (rw [runEnc_good (by assumption), hb, List.take_of_length_le (by omega)]; simp [runBody]; done))
      refine ⟨Value.slice b_A (b.length) (b_c), ?_, ?_⟩
      rotate_left
      · rw [he0]; exact (Ow.up (OwnL.ow h_b rfl) (hS_.1 _ (.head _)))
      all_goals (first | rfl | (first | (rw [runEnc_bad (by assumption)] <;> rfl) | (rw [runEnc_good (by assumption)] <;> rfl)))
theorem fin0_rNext1_ok {P : Prop} (h : P := by first | (rw [rOp1_pb (by assumption) (by first | exact .inl (by assumption) | exact .inr (by assumption))] <;> first | rfl | done) | (rw [rOp1_pg (by assumption) (by assumption) (by assumption)] <;> first | rfl | done) | (rw [rOp1_db (by assumption) (by first | exact .inl (by assumption) | exact .inr (by assumption))] <;> first | rfl | done) | (rw [rOp1_dg (by assumption) (by assumption) (by assumption)] <;> first | rfl | done)) : P := h
theorem rNext1_ok (W : World) {g0 : Nat} {E0 : TypeId} {d0 : Dref01Reader} {b0_0 : Value} (hm : mle (mone g0 (.cells [(b0_0 : Value), .int .i64 d0.2.1, .bool d0.2.2].toArray E0 (0, 0))) (wm W)) (h0_0 : Rd (.sl .byte) (mout (wm W) (mone g0 (.cells [(b0_0 : Value), .int .i64 d0.2.1, .bool d0.2.2].toArray E0 (0, 0)))) [b0_0] d0.1) (h0_1 : inK .i64 d0.2.1) (e0 : rOk d0.1 d0.2) : CallR Try.prog 59 [.pointer (some ⟨g0, 0, none⟩)] W (mone g0 (.cells [(b0_0 : Value), .int .i64 d0.2.1, .bool d0.2.2].toArray E0 (0, 0))) (fun v m' => ∃ (s0 : List Value), v = .agg s0.toArray ∧ Ow TOp m' s0 ((rOp1 d0.1 d0.2).1) ∧ m' = mone g0 (.cells [(b0_0 : Value), .int .i64 ((rOp1 d0.1 d0.2).2.1), .bool ((rOp1 d0.1 d0.2).2.2)].toArray E0 (0, 0)) ∧ inK .i64 ((rOp1 d0.1 d0.2).2.1)) := by
  have e0_ := e0; obtain ⟨e0a, e0b⟩ := e0_
  obtain ⟨A0_0, c0_0, rfl, l0_0, k0_0⟩ := h0_0.slice
  simp only [maxLen] at k0_0
  have h0_1' := h0_1; simp only [inK] at h0_1'
  refine CallR.ofB (n := 39) hm Try.func59 rfl rfl rfl ?_
  refine VC.rs ?_
  refine VO.alloc 102 rfl tz35 (fun g1 => ?_)
  refine VO.k2 0 2 ?_
  refine VC.rs ?_
  refine VO.mv ?_
  refine VO.call 1 rfl fnOk58 rfl rfl (fun W hW => rSmall_ok W (d0 := d0) (hW.at (i := 1) rfl) (Rd.mono h0_0 (hW.out (i := 1) (j := 0) rfl rfl)) bdk 1 bdk (by first | assumption | exact ⟨by omega, by omega⟩ | exact ⟨by (simp; done), by (simp; done)⟩)) (fun v3 m3 hv3 => ?_)
  obtain ⟨rfl, rfl, w3_0_1⟩ := hv3
  have hfa4 := (rNum_ok (B := d0.1) (m := 1) (s := d0.2) (by first | assumption | exact ⟨by omega, by omega⟩ | exact ⟨by (simp; done), by (simp; done)⟩) (by omega)).1
  have hfa5 := (rNum_ok (B := d0.1) (m := 1) (s := d0.2) (by first | assumption | exact ⟨by omega, by omega⟩ | exact ⟨by (simp; done), by (simp; done)⟩) (by omega)).1.1
  have hfa6 := (rNum_ok (B := d0.1) (m := 1) (s := d0.2) (by first | assumption | exact ⟨by omega, by omega⟩ | exact ⟨by (simp; done), by (simp; done)⟩) (by omega)).1.2
  have hfa7 := (rNum_ok (B := d0.1) (m := 1) (s := d0.2) (by first | assumption | exact ⟨by omega, by omega⟩ | exact ⟨by (simp; done), by (simp; done)⟩) (by omega)).2
  simp only [inK] at w3_0_1
  refine VO.as ?_
  refine VO.k3 0 2 3 ?_
  refine VC.rs ?_
  refine VO.mv ?_
  refine VO.mv ?_
  refine VO.call 1 rfl fnOk58 rfl rfl (fun W hW => rSmall_ok W (d0 := (d0.1, (rNum d0.1 1 d0.2).2)) (hW.at (i := 1) rfl) (Rd.mono h0_0 (hW.out (i := 1) (j := 0) rfl rfl)) bdk 16 bdk (by first | assumption | exact ⟨by omega, by omega⟩ | exact ⟨by (simp; done), by (simp; done)⟩)) (fun v8 m8 hv8 => ?_)
  try dsimp only at hv8
  obtain ⟨rfl, rfl, w8_0_1⟩ := hv8
  have hfa9 := (rNum_ok (B := d0.1) (m := 16) (s := ((rNum d0.1 1 d0.2).2)) (by first | assumption | exact ⟨by omega, by omega⟩ | exact ⟨by (simp; done), by (simp; done)⟩) (by omega)).1
  have hfa10 := (rNum_ok (B := d0.1) (m := 16) (s := ((rNum d0.1 1 d0.2).2)) (by first | assumption | exact ⟨by omega, by omega⟩ | exact ⟨by (simp; done), by (simp; done)⟩) (by omega)).1.1
  have hfa11 := (rNum_ok (B := d0.1) (m := 16) (s := ((rNum d0.1 1 d0.2).2)) (by first | assumption | exact ⟨by omega, by omega⟩ | exact ⟨by (simp; done), by (simp; done)⟩) (by omega)).1.2
  have hfa12 := (rNum_ok (B := d0.1) (m := 16) (s := ((rNum d0.1 1 d0.2).2)) (by first | assumption | exact ⟨by omega, by omega⟩ | exact ⟨by (simp; done), by (simp; done)⟩) (by omega)).2
  simp only [inK] at w8_0_1
  refine VO.call 1 rfl fnOk85 rfl rfl (fun W hW => rBytes_ok_ W (d0 := (d0.1, (rNum d0.1 16 ((rNum d0.1 1 d0.2).2)).2)) (hW.at (i := 1) rfl) (Rd.mono h0_0 (hW.out (i := 1) (j := 0) rfl rfl)) bdk ((rNum d0.1 16 ((rNum d0.1 1 d0.2).2)).1) bdk (by first | assumption | exact ⟨by omega, by omega⟩ | exact ⟨by (simp; done), by (simp; done)⟩) bd bd) (fun v13 m13 hv13 => ?_)
  try dsimp only at hv13
  obtain ⟨s13_0, p13_0, rfl, hS13, f13_0, w13_0_1⟩ := hv13
  refine VO.inv _ (fun _ h => h.parts (i := 1) rfl hS13 [114, 115]) ?_
  have hfa16 := (rBytes_ok (B := d0.1) (n := ((rNum d0.1 16 ((rNum d0.1 1 d0.2).2)).1)) (s := ((rNum d0.1 16 ((rNum d0.1 1 d0.2).2)).2)) (by first | assumption | exact ⟨by omega, by omega⟩ | exact ⟨by (simp; done), by (simp; done)⟩) (by omega)).1
  have hfa17 := (rBytes_ok (B := d0.1) (n := ((rNum d0.1 16 ((rNum d0.1 1 d0.2).2)).1)) (s := ((rNum d0.1 16 ((rNum d0.1 1 d0.2).2)).2)) (by first | assumption | exact ⟨by omega, by omega⟩ | exact ⟨by (simp; done), by (simp; done)⟩) (by omega)).1.1
  have hfa18 := (rBytes_ok (B := d0.1) (n := ((rNum d0.1 16 ((rNum d0.1 1 d0.2).2)).1)) (s := ((rNum d0.1 16 ((rNum d0.1 1 d0.2).2)).2)) (by first | assumption | exact ⟨by omega, by omega⟩ | exact ⟨by (simp; done), by (simp; done)⟩) (by omega)).1.2
  have hfa19 := (rBytes_ok (B := d0.1) (n := ((rNum d0.1 16 ((rNum d0.1 1 d0.2).2)).1)) (s := ((rNum d0.1 16 ((rNum d0.1 1 d0.2).2)).2)) (by first | assumption | exact ⟨by omega, by omega⟩ | exact ⟨by (simp; done), by (simp; done)⟩) (by omega)).2
  simp only [inK] at w13_0_1
  obtain ⟨A13_0, c13_0, eq13_0, l13_0, k13_0⟩ := f13_0.slice
  subst eq13_0
  simp only [maxLen] at k13_0
  refine VO.as ?_
  refine VO.kp [114, 115, 102, 0] [(114, p13_0), (115, mone g0 (.cells [Value.slice A0_0 (d0.1.length) (c0_0), Value.int .i64 ((rBytes d0.1 ((rNum d0.1 16 ((rNum d0.1 1 d0.2).2)).1) ((rNum d0.1 16 ((rNum d0.1 1 d0.2).2)).2)).2.1), Value.bool ((rBytes d0.1 ((rNum d0.1 16 ((rNum d0.1 1 d0.2).2)).1) ((rNum d0.1 16 ((rNum d0.1 1 d0.2).2)).2)).2.2)].toArray E0 (0, 0))), (102, mone g1 (.cells [Value.bool false, str ([]), str ([])].toArray 35 (0, 0))), (0, mout (wm W) (mone g0 (.cells [Value.slice A0_0 (d0.1.length) (c0_0), Value.int .i64 (d0.2.1), Value.bool d0.2.2].toArray E0 (0, 0))))] ?_
  refine VO.k4 0 2 3 4 ?_
  refine VC.rs ?_
  refine VO.mv ?_
  refine VO.y rfl (.eql rfl rfl) ?_
  refine VO.mv ?_
  refine VO.y rfl (.b2s 114 rfl Try.underlying38 Try.underlying9 Try.underlying5 rfl (OwnL.rd (Ow.ownl f13_0 rfl mnil) (mle_refl _) (mle_nil _))) ?_
  refine VO.y rfl (.bst (cs := [Value.bool (decide (((rNum d0.1 1 d0.2).1) = 1)), str ((rBytes d0.1 ((rNum d0.1 16 ((rNum d0.1 1 d0.2).2)).1) ((rNum d0.1 16 ((rNum d0.1 1 d0.2).2)).2)).1), str ([])]) rfl tst35 tz35 rfl) ?_
  refine VO.alloc 121 rfl tz35 (fun g20 => ?_)
  refine VO.store (k := 3) (c' := [Value.bool (decide (((rNum d0.1 1 d0.2).1) = 1)), str ((rBytes d0.1 ((rNum d0.1 16 ((rNum d0.1 1 d0.2).2)).1) ((rNum d0.1 16 ((rNum d0.1 1 d0.2).2)).2)).1), str ([])]) 121 rfl rfl (.inl tk35) rfl rfl rfl rfl rfl ?_
  refine VO.k5 0 2 3 4 5 ?_
  refine VC.seq ?_
  refine VC.rs ?_
  refine VO.mv ?_
  refine VO.y rfl (.eql rfl rfl) ?_
  refine VO.k6 0 2 3 4 5 18 ?_
  refine VC.cond rfl (fun hc22 => ?_) (fun hc22 => ?_)
  · -- T
    refine VC.reg ?_
    refine VO.mv ?_
    refine VO.mv ?_
    refine VO.call 115 rfl fnOk58 rfl rfl (fun W hW => rSmall_ok W (d0 := (d0.1, (rBytes d0.1 ((rNum d0.1 16 ((rNum d0.1 1 d0.2).2)).1) ((rNum d0.1 16 ((rNum d0.1 1 d0.2).2)).2)).2)) (hW.at (i := 115) rfl) (Rd.mono h0_0 (hW.out (i := 115) (j := 0) rfl rfl)) bdk 32 bdk (by first | assumption | exact ⟨by omega, by omega⟩ | exact ⟨by (simp; done), by (simp; done)⟩)) (fun v23 m23 hv23 => ?_)
    try dsimp only at hv23
    obtain ⟨rfl, rfl, w23_0_1⟩ := hv23
    have hfa24 := (rNum_ok (B := d0.1) (m := 32) (s := ((rBytes d0.1 ((rNum d0.1 16 ((rNum d0.1 1 d0.2).2)).1) ((rNum d0.1 16 ((rNum d0.1 1 d0.2).2)).2)).2)) (by first | assumption | exact ⟨by omega, by omega⟩ | exact ⟨by (simp; done), by (simp; done)⟩) (by omega)).1
    have hfa25 := (rNum_ok (B := d0.1) (m := 32) (s := ((rBytes d0.1 ((rNum d0.1 16 ((rNum d0.1 1 d0.2).2)).1) ((rNum d0.1 16 ((rNum d0.1 1 d0.2).2)).2)).2)) (by first | assumption | exact ⟨by omega, by omega⟩ | exact ⟨by (simp; done), by (simp; done)⟩) (by omega)).1.1
    have hfa26 := (rNum_ok (B := d0.1) (m := 32) (s := ((rBytes d0.1 ((rNum d0.1 16 ((rNum d0.1 1 d0.2).2)).1) ((rNum d0.1 16 ((rNum d0.1 1 d0.2).2)).2)).2)) (by first | assumption | exact ⟨by omega, by omega⟩ | exact ⟨by (simp; done), by (simp; done)⟩) (by omega)).1.2
    have hfa27 := (rNum_ok (B := d0.1) (m := 32) (s := ((rBytes d0.1 ((rNum d0.1 16 ((rNum d0.1 1 d0.2).2)).1) ((rNum d0.1 16 ((rNum d0.1 1 d0.2).2)).2)).2)) (by first | assumption | exact ⟨by omega, by omega⟩ | exact ⟨by (simp; done), by (simp; done)⟩) (by omega)).2
    simp only [inK] at w23_0_1
    refine VO.call 115 rfl fnOk85 rfl rfl (fun W hW => rBytes_ok_ W (d0 := (d0.1, (rNum d0.1 32 ((rBytes d0.1 ((rNum d0.1 16 ((rNum d0.1 1 d0.2).2)).1) ((rNum d0.1 16 ((rNum d0.1 1 d0.2).2)).2)).2)).2)) (hW.at (i := 115) rfl) (Rd.mono h0_0 (hW.out (i := 115) (j := 0) rfl rfl)) bdk ((rNum d0.1 32 ((rBytes d0.1 ((rNum d0.1 16 ((rNum d0.1 1 d0.2).2)).1) ((rNum d0.1 16 ((rNum d0.1 1 d0.2).2)).2)).2)).1) bdk (by first | assumption | exact ⟨by omega, by omega⟩ | exact ⟨by (simp; done), by (simp; done)⟩) bd bd) (fun v28 m28 hv28 => ?_)
    try dsimp only at hv28
    obtain ⟨s28_0, p28_0, rfl, hS28, f28_0, w28_0_1⟩ := hv28
    refine VO.inv _ (fun _ h => h.parts (i := 115) rfl hS28 [129, 130]) ?_
    have hfa31 := (rBytes_ok (B := d0.1) (n := ((rNum d0.1 32 ((rBytes d0.1 ((rNum d0.1 16 ((rNum d0.1 1 d0.2).2)).1) ((rNum d0.1 16 ((rNum d0.1 1 d0.2).2)).2)).2)).1)) (s := ((rNum d0.1 32 ((rBytes d0.1 ((rNum d0.1 16 ((rNum d0.1 1 d0.2).2)).1) ((rNum d0.1 16 ((rNum d0.1 1 d0.2).2)).2)).2)).2)) (by first | assumption | exact ⟨by omega, by omega⟩ | exact ⟨by (simp; done), by (simp; done)⟩) (by omega)).1
    have hfa32 := (rBytes_ok (B := d0.1) (n := ((rNum d0.1 32 ((rBytes d0.1 ((rNum d0.1 16 ((rNum d0.1 1 d0.2).2)).1) ((rNum d0.1 16 ((rNum d0.1 1 d0.2).2)).2)).2)).1)) (s := ((rNum d0.1 32 ((rBytes d0.1 ((rNum d0.1 16 ((rNum d0.1 1 d0.2).2)).1) ((rNum d0.1 16 ((rNum d0.1 1 d0.2).2)).2)).2)).2)) (by first | assumption | exact ⟨by omega, by omega⟩ | exact ⟨by (simp; done), by (simp; done)⟩) (by omega)).1.1
    have hfa33 := (rBytes_ok (B := d0.1) (n := ((rNum d0.1 32 ((rBytes d0.1 ((rNum d0.1 16 ((rNum d0.1 1 d0.2).2)).1) ((rNum d0.1 16 ((rNum d0.1 1 d0.2).2)).2)).2)).1)) (s := ((rNum d0.1 32 ((rBytes d0.1 ((rNum d0.1 16 ((rNum d0.1 1 d0.2).2)).1) ((rNum d0.1 16 ((rNum d0.1 1 d0.2).2)).2)).2)).2)) (by first | assumption | exact ⟨by omega, by omega⟩ | exact ⟨by (simp; done), by (simp; done)⟩) (by omega)).1.2
    have hfa34 := (rBytes_ok (B := d0.1) (n := ((rNum d0.1 32 ((rBytes d0.1 ((rNum d0.1 16 ((rNum d0.1 1 d0.2).2)).1) ((rNum d0.1 16 ((rNum d0.1 1 d0.2).2)).2)).2)).1)) (s := ((rNum d0.1 32 ((rBytes d0.1 ((rNum d0.1 16 ((rNum d0.1 1 d0.2).2)).1) ((rNum d0.1 16 ((rNum d0.1 1 d0.2).2)).2)).2)).2)) (by first | assumption | exact ⟨by omega, by omega⟩ | exact ⟨by (simp; done), by (simp; done)⟩) (by omega)).2
    simp only [inK] at w28_0_1
    obtain ⟨A28_0, c28_0, eq28_0, l28_0, k28_0⟩ := f28_0.slice
    subst eq28_0
    simp only [maxLen] at k28_0
    refine VO.y rfl (.b2s 129 rfl Try.underlying38 Try.underlying9 Try.underlying5 rfl (OwnL.rd (Ow.ownl f28_0 rfl mnil) (mle_refl _) (mle_nil _))) ?_
    refine VO.y rfl (.fa rfl tst35 rfl) ?_
    refine VO.store (k := 1) (c' := [Value.bool (decide (((rNum d0.1 1 d0.2).1) = 1)), str ((rBytes d0.1 ((rNum d0.1 16 ((rNum d0.1 1 d0.2).2)).1) ((rNum d0.1 16 ((rNum d0.1 1 d0.2).2)).2)).1), str ((rBytes d0.1 ((rNum d0.1 32 ((rBytes d0.1 ((rNum d0.1 16 ((rNum d0.1 1 d0.2).2)).1) ((rNum d0.1 16 ((rNum d0.1 1 d0.2).2)).2)).2)).1) ((rNum d0.1 32 ((rBytes d0.1 ((rNum d0.1 16 ((rNum d0.1 1 d0.2).2)).1) ((rNum d0.1 16 ((rNum d0.1 1 d0.2).2)).2)).2)).2)).1)]) 121 rfl rfl (.inr ⟨tk9, rfl⟩) rfl rfl rfl rfl rfl ?_
    refine VO.kp [130, 121, 114, 102, 0] [(130, mone g0 (.cells [Value.slice A0_0 (d0.1.length) (c0_0), Value.int .i64 ((rBytes d0.1 ((rNum d0.1 32 ((rBytes d0.1 ((rNum d0.1 16 ((rNum d0.1 1 d0.2).2)).1) ((rNum d0.1 16 ((rNum d0.1 1 d0.2).2)).2)).2)).1) ((rNum d0.1 32 ((rBytes d0.1 ((rNum d0.1 16 ((rNum d0.1 1 d0.2).2)).1) ((rNum d0.1 16 ((rNum d0.1 1 d0.2).2)).2)).2)).2)).2.1), Value.bool ((rBytes d0.1 ((rNum d0.1 32 ((rBytes d0.1 ((rNum d0.1 16 ((rNum d0.1 1 d0.2).2)).1) ((rNum d0.1 16 ((rNum d0.1 1 d0.2).2)).2)).2)).1) ((rNum d0.1 32 ((rBytes d0.1 ((rNum d0.1 16 ((rNum d0.1 1 d0.2).2)).1) ((rNum d0.1 16 ((rNum d0.1 1 d0.2).2)).2)).2)).2)).2.2)].toArray E0 (0, 0))), (121, mone g20 (.cells [Value.bool (decide (((rNum d0.1 1 d0.2).1) = 1)), str ((rBytes d0.1 ((rNum d0.1 16 ((rNum d0.1 1 d0.2).2)).1) ((rNum d0.1 16 ((rNum d0.1 1 d0.2).2)).2)).1), str ((rBytes d0.1 ((rNum d0.1 32 ((rBytes d0.1 ((rNum d0.1 16 ((rNum d0.1 1 d0.2).2)).1) ((rNum d0.1 16 ((rNum d0.1 1 d0.2).2)).2)).2)).1) ((rNum d0.1 32 ((rBytes d0.1 ((rNum d0.1 16 ((rNum d0.1 1 d0.2).2)).1) ((rNum d0.1 16 ((rNum d0.1 1 d0.2).2)).2)).2)).2)).1)].toArray 35 (0, 0))), (114, p13_0), (102, mone g1 (.cells [Value.bool false, str ([]), str ([])].toArray 35 (0, 0))), (0, mout (wm W) (mone g0 (.cells [Value.slice A0_0 (d0.1.length) (c0_0), Value.int .i64 (d0.2.1), Value.bool d0.2.2].toArray E0 (0, 0))))] ?_
    refine VO.k6 0 2 3 4 5 18 ?_
    refine outN ?_
    refine VC.seq ?_
    refine VC.rs ?_
    refine VO.mv ?_
    refine VO.y rfl (.nilp rfl) ?_
    refine VO.y rfl (.fa rfl tst96 rfl) ?_
    refine VO.y rfl (.ld1 130 rfl tk4 rfl (cellsAt_one rfl rfl)) ?_
    refine VO.mv ?_
    refine VO.decB (t := 29) rfl (fun hc35 => ?_) (fun hc35 => ?_)
    · -- TT
      refine VO.gN ?_
      refine VO.gN ?_
      refine VO.gN ?_
      refine VO.y rfl (.pT rfl rfl) ?_
      refine VO.k7 0 2 3 4 5 18 33 ?_
      refine VC.condT rfl ?_
      refine VC.rs ?_
      refine VO.mv ?_
      refine VO.y rfl (.nilp rfl) ?_
      refine VO.y rfl (.fa rfl tst96 rfl) ?_
      refine VO.store (k := 1) (c' := [Value.slice A0_0 (d0.1.length) (c0_0), Value.int .i64 ((rBytes d0.1 ((rNum d0.1 32 ((rBytes d0.1 ((rNum d0.1 16 ((rNum d0.1 1 d0.2).2)).1) ((rNum d0.1 16 ((rNum d0.1 1 d0.2).2)).2)).2)).1) ((rNum d0.1 32 ((rBytes d0.1 ((rNum d0.1 16 ((rNum d0.1 1 d0.2).2)).1) ((rNum d0.1 16 ((rNum d0.1 1 d0.2).2)).2)).2)).2)).2.1), Value.bool true]) 130 rfl rfl (.inr ⟨tk4, rfl⟩) rfl rfl rfl rfl rfl ?_
      refine VO.k7 0 2 3 4 5 18 33 ?_
      refine VC.rs ?_
      refine VO.y rfl (.bst (cs := [Value.bool false, str ([]), str ([])]) rfl tst35 tz35 rfl) ?_
      refine VO.store (k := 3) (c' := [Value.bool false, str ([]), str ([])]) 102 rfl rfl (.inl tk35) rfl rfl rfl rfl rfl ?_
      refine VO.kp [130, 121, 114, 102, 0] [(130, mone g0 (.cells [Value.slice A0_0 (d0.1.length) (c0_0), Value.int .i64 ((rBytes d0.1 ((rNum d0.1 32 ((rBytes d0.1 ((rNum d0.1 16 ((rNum d0.1 1 d0.2).2)).1) ((rNum d0.1 16 ((rNum d0.1 1 d0.2).2)).2)).2)).1) ((rNum d0.1 32 ((rBytes d0.1 ((rNum d0.1 16 ((rNum d0.1 1 d0.2).2)).1) ((rNum d0.1 16 ((rNum d0.1 1 d0.2).2)).2)).2)).2)).2.1), Value.bool true].toArray E0 (0, 0))), (121, mone g20 (.cells [Value.bool (decide (((rNum d0.1 1 d0.2).1) = 1)), str ((rBytes d0.1 ((rNum d0.1 16 ((rNum d0.1 1 d0.2).2)).1) ((rNum d0.1 16 ((rNum d0.1 1 d0.2).2)).2)).1), str ((rBytes d0.1 ((rNum d0.1 32 ((rBytes d0.1 ((rNum d0.1 16 ((rNum d0.1 1 d0.2).2)).1) ((rNum d0.1 16 ((rNum d0.1 1 d0.2).2)).2)).2)).1) ((rNum d0.1 32 ((rBytes d0.1 ((rNum d0.1 16 ((rNum d0.1 1 d0.2).2)).1) ((rNum d0.1 16 ((rNum d0.1 1 d0.2).2)).2)).2)).2)).1)].toArray 35 (0, 0))), (114, p13_0), (102, mone g1 (.cells [Value.bool false, str ([]), str ([])].toArray 35 (0, 0))), (0, mout (wm W) (mone g0 (.cells [Value.slice A0_0 (d0.1.length) (c0_0), Value.int .i64 (d0.2.1), Value.bool d0.2.2].toArray E0 (0, 0))))] ?_
      refine VO.k7 0 2 3 4 5 18 33 ?_
      refine VC.ret ?_
      refine outR ?_
      refine ⟨_, _, res_run (rs := [.cell 2 35]) rfl (.agg 102 rfl tk35 rfl ⟨_, _, _, mone_self _ _, Nat.le_of_ble_eq_true rfl, rfl⟩ .nil), fun W_ hI => out_of (l := [mone g0 (.cells [Value.slice A0_0 (d0.1.length) (c0_0), Value.int .i64 ((rBytes d0.1 ((rNum d0.1 32 ((rBytes d0.1 ((rNum d0.1 16 ((rNum d0.1 1 d0.2).2)).1) ((rNum d0.1 16 ((rNum d0.1 1 d0.2).2)).2)).2)).1) ((rNum d0.1 32 ((rBytes d0.1 ((rNum d0.1 16 ((rNum d0.1 1 d0.2).2)).1) ((rNum d0.1 16 ((rNum d0.1 1 d0.2).2)).2)).2)).2)).2.1), Value.bool true].toArray E0 (0, 0))]) hI [130] rfl rfl (mle_refl _) (fun hS_ => ?_)⟩
      dsimp only [packV]
      have he0 : ((rOp1 d0.1 d0.2).1 : Ty.Den TOp) = (false, [], []) := by first | rfl | (exact fin0_rNext1_ok)
      have hm0_1 : ((rOp1 d0.1 d0.2).2.1 : Int) = (rBytes d0.1 ((rNum d0.1 32 ((rBytes d0.1 ((rNum d0.1 16 ((rNum d0.1 1 d0.2).2)).1) ((rNum d0.1 16 ((rNum d0.1 1 d0.2).2)).2)).2)).1) ((rNum d0.1 32 ((rBytes d0.1 ((rNum d0.1 16 ((rNum d0.1 1 d0.2).2)).1) ((rNum d0.1 16 ((rNum d0.1 1 d0.2).2)).2)).2)).2)).2.1 := by first | rfl | (exact fin0_rNext1_ok)
      have hm0_2 : ((rOp1 d0.1 d0.2).2.2 : Bool) = true := by first | rfl | (exact fin0_rNext1_ok)
      refine ⟨[Value.bool false, str ([]), str ([])], ?_, ?_, ?_, ?_⟩
      rotate_left
      · rw [he0]; exact (Ow.of (m := mnil) rfl (mk_Op (m := _) false [] [] bdm bdm))
      · rw [hm0_1, hm0_2, muns_one]
      · rw [hm0_1]; exact (show inK .i64 _ by simp only [inK]; (first | omega | (simp only [List.length_append, List.length_nil, List.length_cons, List.length_take, List.length_drop] at *; omega)))
      all_goals (first | rfl | (exact fin0_rNext1_ok))
    · -- TF
      refine VO.gy rfl ⟨_, rfl, rfl⟩ (.ldA 121 rfl tk35 rfl (cellsAt_one rfl rfl)) ?_
      refine VO.gcallN 136 rfl ⟨_, rfl, rfl⟩ fnOk61 rfl (fun W hW => refOpCheck_ok W (mk_Op (m := wm W) (decide (((rNum d0.1 1 d0.2).1) = 1)) ((rBytes d0.1 ((rNum d0.1 16 ((rNum d0.1 1 d0.2).2)).1) ((rNum d0.1 16 ((rNum d0.1 1 d0.2).2)).2)).1) ((rBytes d0.1 ((rNum d0.1 32 ((rBytes d0.1 ((rNum d0.1 16 ((rNum d0.1 1 d0.2).2)).1) ((rNum d0.1 16 ((rNum d0.1 1 d0.2).2)).2)).2)).1) ((rNum d0.1 32 ((rBytes d0.1 ((rNum d0.1 16 ((rNum d0.1 1 d0.2).2)).1) ((rNum d0.1 16 ((rNum d0.1 1 d0.2).2)).2)).2)).2)).1) bdm bdm)) (fun v36 m36 hv36 => ?_)
      try dsimp only at hv36
      subst hv36
      refine VO.gy rfl ⟨_, rfl, rfl⟩ (.neq rfl rfl) ?_
      refine VO.y rfl (.pF rfl rfl) ?_
      refine VO.k7 0 2 3 4 5 18 33 ?_
      refine VC.cond rfl (fun hc37 => ?_) (fun hc37 => ?_)
      · -- TFT
        refine VC.rs ?_
        refine VO.mv ?_
        refine VO.y rfl (.nilp rfl) ?_
        refine VO.y rfl (.fa rfl tst96 rfl) ?_
        refine VO.store (k := 1) (c' := [Value.slice A0_0 (d0.1.length) (c0_0), Value.int .i64 ((rBytes d0.1 ((rNum d0.1 32 ((rBytes d0.1 ((rNum d0.1 16 ((rNum d0.1 1 d0.2).2)).1) ((rNum d0.1 16 ((rNum d0.1 1 d0.2).2)).2)).2)).1) ((rNum d0.1 32 ((rBytes d0.1 ((rNum d0.1 16 ((rNum d0.1 1 d0.2).2)).1) ((rNum d0.1 16 ((rNum d0.1 1 d0.2).2)).2)).2)).2)).2.1), Value.bool true]) 130 rfl rfl (.inr ⟨tk4, rfl⟩) rfl rfl rfl rfl rfl ?_
        refine VO.k7 0 2 3 4 5 18 33 ?_
        refine VC.rs ?_
        refine VO.y rfl (.bst (cs := [Value.bool false, str ([]), str ([])]) rfl tst35 tz35 rfl) ?_
        refine VO.store (k := 3) (c' := [Value.bool false, str ([]), str ([])]) 102 rfl rfl (.inl tk35) rfl rfl rfl rfl rfl ?_
        refine VO.kp [130, 121, 114, 102, 0] [(130, mone g0 (.cells [Value.slice A0_0 (d0.1.length) (c0_0), Value.int .i64 ((rBytes d0.1 ((rNum d0.1 32 ((rBytes d0.1 ((rNum d0.1 16 ((rNum d0.1 1 d0.2).2)).1) ((rNum d0.1 16 ((rNum d0.1 1 d0.2).2)).2)).2)).1) ((rNum d0.1 32 ((rBytes d0.1 ((rNum d0.1 16 ((rNum d0.1 1 d0.2).2)).1) ((rNum d0.1 16 ((rNum d0.1 1 d0.2).2)).2)).2)).2)).2.1), Value.bool true].toArray E0 (0, 0))), (121, mone g20 (.cells [Value.bool (decide (((rNum d0.1 1 d0.2).1) = 1)), str ((rBytes d0.1 ((rNum d0.1 16 ((rNum d0.1 1 d0.2).2)).1) ((rNum d0.1 16 ((rNum d0.1 1 d0.2).2)).2)).1), str ((rBytes d0.1 ((rNum d0.1 32 ((rBytes d0.1 ((rNum d0.1 16 ((rNum d0.1 1 d0.2).2)).1) ((rNum d0.1 16 ((rNum d0.1 1 d0.2).2)).2)).2)).1) ((rNum d0.1 32 ((rBytes d0.1 ((rNum d0.1 16 ((rNum d0.1 1 d0.2).2)).1) ((rNum d0.1 16 ((rNum d0.1 1 d0.2).2)).2)).2)).2)).1)].toArray 35 (0, 0))), (114, p13_0), (102, mone g1 (.cells [Value.bool false, str ([]), str ([])].toArray 35 (0, 0))), (0, mout (wm W) (mone g0 (.cells [Value.slice A0_0 (d0.1.length) (c0_0), Value.int .i64 (d0.2.1), Value.bool d0.2.2].toArray E0 (0, 0))))] ?_
        refine VO.k7 0 2 3 4 5 18 33 ?_
        refine VC.ret ?_
        refine outR ?_
        refine ⟨_, _, res_run (rs := [.cell 2 35]) rfl (.agg 102 rfl tk35 rfl ⟨_, _, _, mone_self _ _, Nat.le_of_ble_eq_true rfl, rfl⟩ .nil), fun W_ hI => out_of (l := [mone g0 (.cells [Value.slice A0_0 (d0.1.length) (c0_0), Value.int .i64 ((rBytes d0.1 ((rNum d0.1 32 ((rBytes d0.1 ((rNum d0.1 16 ((rNum d0.1 1 d0.2).2)).1) ((rNum d0.1 16 ((rNum d0.1 1 d0.2).2)).2)).2)).1) ((rNum d0.1 32 ((rBytes d0.1 ((rNum d0.1 16 ((rNum d0.1 1 d0.2).2)).1) ((rNum d0.1 16 ((rNum d0.1 1 d0.2).2)).2)).2)).2)).2.1), Value.bool true].toArray E0 (0, 0))]) hI [130] rfl rfl (mle_refl _) (fun hS_ => ?_)⟩
        dsimp only [packV]
        have he0 : ((rOp1 d0.1 d0.2).1 : Ty.Den TOp) = (false, [], []) := by first | rfl | (exact fin0_rNext1_ok)
        have hm0_1 : ((rOp1 d0.1 d0.2).2.1 : Int) = (rBytes d0.1 ((rNum d0.1 32 ((rBytes d0.1 ((rNum d0.1 16 ((rNum d0.1 1 d0.2).2)).1) ((rNum d0.1 16 ((rNum d0.1 1 d0.2).2)).2)).2)).1) ((rNum d0.1 32 ((rBytes d0.1 ((rNum d0.1 16 ((rNum d0.1 1 d0.2).2)).1) ((rNum d0.1 16 ((rNum d0.1 1 d0.2).2)).2)).2)).2)).2.1 := by first | rfl | (exact fin0_rNext1_ok)
        have hm0_2 : ((rOp1 d0.1 d0.2).2.2 : Bool) = true := by first | rfl | (exact fin0_rNext1_ok)
        refine ⟨[Value.bool false, str ([]), str ([])], ?_, ?_, ?_, ?_⟩
        rotate_left
        · rw [he0]; exact (Ow.of (m := mnil) rfl (mk_Op (m := _) false [] [] bdm bdm))
        · rw [hm0_1, hm0_2, muns_one]
        · rw [hm0_1]; exact (show inK .i64 _ by simp only [inK]; (first | omega | (simp only [List.length_append, List.length_nil, List.length_cons, List.length_take, List.length_drop] at *; omega)))
        all_goals (first | rfl | (exact fin0_rNext1_ok))
      · -- TFF
        refine VC.skip ?_
        refine outN ?_
        refine VC.rs ?_
        refine VO.y rfl (.ldA 121 rfl tk35 rfl (cellsAt_one rfl rfl)) ?_
        refine VO.store (k := 3) (c' := [Value.bool (decide (((rNum d0.1 1 d0.2).1) = 1)), str ((rBytes d0.1 ((rNum d0.1 16 ((rNum d0.1 1 d0.2).2)).1) ((rNum d0.1 16 ((rNum d0.1 1 d0.2).2)).2)).1), str ((rBytes d0.1 ((rNum d0.1 32 ((rBytes d0.1 ((rNum d0.1 16 ((rNum d0.1 1 d0.2).2)).1) ((rNum d0.1 16 ((rNum d0.1 1 d0.2).2)).2)).2)).1) ((rNum d0.1 32 ((rBytes d0.1 ((rNum d0.1 16 ((rNum d0.1 1 d0.2).2)).1) ((rNum d0.1 16 ((rNum d0.1 1 d0.2).2)).2)).2)).2)).1)]) 102 rfl rfl (.inl tk35) rfl rfl rfl rfl rfl ?_
        refine VO.k7 0 2 3 4 5 18 33 ?_
        refine VC.ret ?_
        refine ⟨_, _, res_run (rs := [.cell 2 35]) rfl (.agg 102 rfl tk35 rfl ⟨_, _, _, mone_self _ _, Nat.le_of_ble_eq_true rfl, rfl⟩ .nil), fun W_ hI => out_of (l := [mone g0 (.cells [Value.slice A0_0 (d0.1.length) (c0_0), Value.int .i64 ((rBytes d0.1 ((rNum d0.1 32 ((rBytes d0.1 ((rNum d0.1 16 ((rNum d0.1 1 d0.2).2)).1) ((rNum d0.1 16 ((rNum d0.1 1 d0.2).2)).2)).2)).1) ((rNum d0.1 32 ((rBytes d0.1 ((rNum d0.1 16 ((rNum d0.1 1 d0.2).2)).1) ((rNum d0.1 16 ((rNum d0.1 1 d0.2).2)).2)).2)).2)).2.1), Value.bool ((rBytes d0.1 ((rNum d0.1 32 ((rBytes d0.1 ((rNum d0.1 16 ((rNum d0.1 1 d0.2).2)).1) ((rNum d0.1 16 ((rNum d0.1 1 d0.2).2)).2)).2)).1) ((rNum d0.1 32 ((rBytes d0.1 ((rNum d0.1 16 ((rNum d0.1 1 d0.2).2)).1) ((rNum d0.1 16 ((rNum d0.1 1 d0.2).2)).2)).2)).2)).2.2)].toArray E0 (0, 0))]) hI [130] rfl rfl (mle_refl _) (fun hS_ => ?_)⟩
        dsimp only [packV]
        have he0 : ((rOp1 d0.1 d0.2).1 : Ty.Den TOp) = (decide (((rNum d0.1 1 d0.2).1) = 1), (rBytes d0.1 ((rNum d0.1 16 ((rNum d0.1 1 d0.2).2)).1) ((rNum d0.1 16 ((rNum d0.1 1 d0.2).2)).2)).1, (rBytes d0.1 ((rNum d0.1 32 ((rBytes d0.1 ((rNum d0.1 16 ((rNum d0.1 1 d0.2).2)).1) ((rNum d0.1 16 ((rNum d0.1 1 d0.2).2)).2)).2)).1) ((rNum d0.1 32 ((rBytes d0.1 ((rNum d0.1 16 ((rNum d0.1 1 d0.2).2)).1) ((rNum d0.1 16 ((rNum d0.1 1 d0.2).2)).2)).2)).2)).1) := by first | rfl | (exact fin0_rNext1_ok)
        have hm0_1 : ((rOp1 d0.1 d0.2).2.1 : Int) = (rBytes d0.1 ((rNum d0.1 32 ((rBytes d0.1 ((rNum d0.1 16 ((rNum d0.1 1 d0.2).2)).1) ((rNum d0.1 16 ((rNum d0.1 1 d0.2).2)).2)).2)).1) ((rNum d0.1 32 ((rBytes d0.1 ((rNum d0.1 16 ((rNum d0.1 1 d0.2).2)).1) ((rNum d0.1 16 ((rNum d0.1 1 d0.2).2)).2)).2)).2)).2.1 := by first | rfl | (exact fin0_rNext1_ok)
        have hm0_2 : ((rOp1 d0.1 d0.2).2.2 : Bool) = (rBytes d0.1 ((rNum d0.1 32 ((rBytes d0.1 ((rNum d0.1 16 ((rNum d0.1 1 d0.2).2)).1) ((rNum d0.1 16 ((rNum d0.1 1 d0.2).2)).2)).2)).1) ((rNum d0.1 32 ((rBytes d0.1 ((rNum d0.1 16 ((rNum d0.1 1 d0.2).2)).1) ((rNum d0.1 16 ((rNum d0.1 1 d0.2).2)).2)).2)).2)).2.2 := by first | rfl | (exact fin0_rNext1_ok)
        refine ⟨[Value.bool (decide (((rNum d0.1 1 d0.2).1) = 1)), str ((rBytes d0.1 ((rNum d0.1 16 ((rNum d0.1 1 d0.2).2)).1) ((rNum d0.1 16 ((rNum d0.1 1 d0.2).2)).2)).1), str ((rBytes d0.1 ((rNum d0.1 32 ((rBytes d0.1 ((rNum d0.1 16 ((rNum d0.1 1 d0.2).2)).1) ((rNum d0.1 16 ((rNum d0.1 1 d0.2).2)).2)).2)).1) ((rNum d0.1 32 ((rBytes d0.1 ((rNum d0.1 16 ((rNum d0.1 1 d0.2).2)).1) ((rNum d0.1 16 ((rNum d0.1 1 d0.2).2)).2)).2)).2)).1)], ?_, ?_, ?_, ?_⟩
        rotate_left
        · rw [he0]; exact (Ow.of (m := mnil) rfl (mk_Op (m := _) (decide (((rNum d0.1 1 d0.2).1) = 1)) ((rBytes d0.1 ((rNum d0.1 16 ((rNum d0.1 1 d0.2).2)).1) ((rNum d0.1 16 ((rNum d0.1 1 d0.2).2)).2)).1) ((rBytes d0.1 ((rNum d0.1 32 ((rBytes d0.1 ((rNum d0.1 16 ((rNum d0.1 1 d0.2).2)).1) ((rNum d0.1 16 ((rNum d0.1 1 d0.2).2)).2)).2)).1) ((rNum d0.1 32 ((rBytes d0.1 ((rNum d0.1 16 ((rNum d0.1 1 d0.2).2)).1) ((rNum d0.1 16 ((rNum d0.1 1 d0.2).2)).2)).2)).2)).1) bdm bdm))
        · rw [hm0_1, hm0_2, muns_one]
        · rw [hm0_1]; exact (show inK .i64 _ by simp only [inK]; (first | omega | (simp only [List.length_append, List.length_nil, List.length_cons, List.length_take, List.length_drop] at *; omega)))
        all_goals (first | rfl | (exact fin0_rNext1_ok))
  · -- F
    refine VC.skip ?_
    refine outN ?_
    refine VC.seq ?_
    refine VC.rs ?_
    refine VO.mv ?_
    refine VO.y rfl (.nilp rfl) ?_
    refine VO.y rfl (.fa rfl tst96 rfl) ?_
    refine VO.y rfl (.ld1 115 rfl tk4 rfl (cellsAt_one rfl rfl)) ?_
    refine VO.mv ?_
    refine VO.decB (t := 29) rfl (fun hc38 => ?_) (fun hc38 => ?_)
    · -- FT
      refine VO.gN ?_
      refine VO.gN ?_
      refine VO.gN ?_
      refine VO.y rfl (.pT rfl rfl) ?_
      refine VO.kp [121, 114, 115, 102, 0] [(121, mone g20 (.cells [Value.bool (decide (((rNum d0.1 1 d0.2).1) = 1)), str ((rBytes d0.1 ((rNum d0.1 16 ((rNum d0.1 1 d0.2).2)).1) ((rNum d0.1 16 ((rNum d0.1 1 d0.2).2)).2)).1), str ([])].toArray 35 (0, 0))), (114, p13_0), (115, mone g0 (.cells [Value.slice A0_0 (d0.1.length) (c0_0), Value.int .i64 ((rBytes d0.1 ((rNum d0.1 16 ((rNum d0.1 1 d0.2).2)).1) ((rNum d0.1 16 ((rNum d0.1 1 d0.2).2)).2)).2.1), Value.bool ((rBytes d0.1 ((rNum d0.1 16 ((rNum d0.1 1 d0.2).2)).1) ((rNum d0.1 16 ((rNum d0.1 1 d0.2).2)).2)).2.2)].toArray E0 (0, 0))), (102, mone g1 (.cells [Value.bool false, str ([]), str ([])].toArray 35 (0, 0))), (0, mout (wm W) (mone g0 (.cells [Value.slice A0_0 (d0.1.length) (c0_0), Value.int .i64 (d0.2.1), Value.bool d0.2.2].toArray E0 (0, 0))))] ?_
      refine VO.k7 0 2 3 4 5 18 33 ?_
      refine VC.condT rfl ?_
      refine VC.rs ?_
      refine VO.mv ?_
      refine VO.y rfl (.nilp rfl) ?_
      refine VO.y rfl (.fa rfl tst96 rfl) ?_
      refine VO.store (k := 1) (c' := [Value.slice A0_0 (d0.1.length) (c0_0), Value.int .i64 ((rBytes d0.1 ((rNum d0.1 16 ((rNum d0.1 1 d0.2).2)).1) ((rNum d0.1 16 ((rNum d0.1 1 d0.2).2)).2)).2.1), Value.bool true]) 115 rfl rfl (.inr ⟨tk4, rfl⟩) rfl rfl rfl rfl rfl ?_
      refine VO.k7 0 2 3 4 5 18 33 ?_
      refine VC.rs ?_
      refine VO.y rfl (.bst (cs := [Value.bool false, str ([]), str ([])]) rfl tst35 tz35 rfl) ?_
      refine VO.store (k := 3) (c' := [Value.bool false, str ([]), str ([])]) 102 rfl rfl (.inl tk35) rfl rfl rfl rfl rfl ?_
      refine VO.k7 0 2 3 4 5 18 33 ?_
      refine VC.ret ?_
      refine outR ?_
      refine ⟨_, _, res_run (rs := [.cell 2 35]) rfl (.agg 102 rfl tk35 rfl ⟨_, _, _, mone_self _ _, Nat.le_of_ble_eq_true rfl, rfl⟩ .nil), fun W_ hI => out_of (l := [mone g0 (.cells [Value.slice A0_0 (d0.1.length) (c0_0), Value.int .i64 ((rBytes d0.1 ((rNum d0.1 16 ((rNum d0.1 1 d0.2).2)).1) ((rNum d0.1 16 ((rNum d0.1 1 d0.2).2)).2)).2.1), Value.bool true].toArray E0 (0, 0))]) hI [115] rfl rfl (mle_refl _) (fun hS_ => ?_)⟩
      dsimp only [packV]
      have he0 : ((rOp1 d0.1 d0.2).1 : Ty.Den TOp) = (false, [], []) := by first | rfl | (exact fin0_rNext1_ok)
      have hm0_1 : ((rOp1 d0.1 d0.2).2.1 : Int) = (rBytes d0.1 ((rNum d0.1 16 ((rNum d0.1 1 d0.2).2)).1) ((rNum d0.1 16 ((rNum d0.1 1 d0.2).2)).2)).2.1 := by first | rfl | (exact fin0_rNext1_ok)
      have hm0_2 : ((rOp1 d0.1 d0.2).2.2 : Bool) = true := by first | rfl | (exact fin0_rNext1_ok)
      refine ⟨[Value.bool false, str ([]), str ([])], ?_, ?_, ?_, ?_⟩
      rotate_left
      · rw [he0]; exact (Ow.of (m := mnil) rfl (mk_Op (m := _) false [] [] bdm bdm))
      · rw [hm0_1, hm0_2, muns_one]
      · rw [hm0_1]; exact (show inK .i64 _ by simp only [inK]; (first | omega | (simp only [List.length_append, List.length_nil, List.length_cons, List.length_take, List.length_drop] at *; omega)))
      all_goals (first | rfl | (exact fin0_rNext1_ok))
    · -- FF
      refine VO.gy rfl ⟨_, rfl, rfl⟩ (.ldA 121 rfl tk35 rfl (cellsAt_one rfl rfl)) ?_
      refine VO.gcallN 139 rfl ⟨_, rfl, rfl⟩ fnOk61 rfl (fun W hW => refOpCheck_ok W (mk_Op (m := wm W) (decide (((rNum d0.1 1 d0.2).1) = 1)) ((rBytes d0.1 ((rNum d0.1 16 ((rNum d0.1 1 d0.2).2)).1) ((rNum d0.1 16 ((rNum d0.1 1 d0.2).2)).2)).1) [] bdm bdm)) (fun v39 m39 hv39 => ?_)
      try dsimp only at hv39
      subst hv39
      refine VO.gy rfl ⟨_, rfl, rfl⟩ (.neq rfl rfl) ?_
      refine VO.y rfl (.pF rfl rfl) ?_
      refine VO.kp [121, 114, 115, 102, 0] [(121, mone g20 (.cells [Value.bool (decide (((rNum d0.1 1 d0.2).1) = 1)), str ((rBytes d0.1 ((rNum d0.1 16 ((rNum d0.1 1 d0.2).2)).1) ((rNum d0.1 16 ((rNum d0.1 1 d0.2).2)).2)).1), str ([])].toArray 35 (0, 0))), (114, p13_0), (115, mone g0 (.cells [Value.slice A0_0 (d0.1.length) (c0_0), Value.int .i64 ((rBytes d0.1 ((rNum d0.1 16 ((rNum d0.1 1 d0.2).2)).1) ((rNum d0.1 16 ((rNum d0.1 1 d0.2).2)).2)).2.1), Value.bool ((rBytes d0.1 ((rNum d0.1 16 ((rNum d0.1 1 d0.2).2)).1) ((rNum d0.1 16 ((rNum d0.1 1 d0.2).2)).2)).2.2)].toArray E0 (0, 0))), (102, mone g1 (.cells [Value.bool false, str ([]), str ([])].toArray 35 (0, 0))), (0, mout (wm W) (mone g0 (.cells [Value.slice A0_0 (d0.1.length) (c0_0), Value.int .i64 (d0.2.1), Value.bool d0.2.2].toArray E0 (0, 0))))] ?_
      refine VO.k7 0 2 3 4 5 18 33 ?_
      refine VC.cond rfl (fun hc40 => ?_) (fun hc40 => ?_)
      · -- FFT
        refine VC.rs ?_
        refine VO.mv ?_
        refine VO.y rfl (.nilp rfl) ?_
        refine VO.y rfl (.fa rfl tst96 rfl) ?_
        refine VO.store (k := 1) (c' := [Value.slice A0_0 (d0.1.length) (c0_0), Value.int .i64 ((rBytes d0.1 ((rNum d0.1 16 ((rNum d0.1 1 d0.2).2)).1) ((rNum d0.1 16 ((rNum d0.1 1 d0.2).2)).2)).2.1), Value.bool true]) 115 rfl rfl (.inr ⟨tk4, rfl⟩) rfl rfl rfl rfl rfl ?_
        refine VO.k7 0 2 3 4 5 18 33 ?_
        refine VC.rs ?_
        refine VO.y rfl (.bst (cs := [Value.bool false, str ([]), str ([])]) rfl tst35 tz35 rfl) ?_
        refine VO.store (k := 3) (c' := [Value.bool false, str ([]), str ([])]) 102 rfl rfl (.inl tk35) rfl rfl rfl rfl rfl ?_
        refine VO.k7 0 2 3 4 5 18 33 ?_
        refine VC.ret ?_
        refine outR ?_
        refine ⟨_, _, res_run (rs := [.cell 2 35]) rfl (.agg 102 rfl tk35 rfl ⟨_, _, _, mone_self _ _, Nat.le_of_ble_eq_true rfl, rfl⟩ .nil), fun W_ hI => out_of (l := [mone g0 (.cells [Value.slice A0_0 (d0.1.length) (c0_0), Value.int .i64 ((rBytes d0.1 ((rNum d0.1 16 ((rNum d0.1 1 d0.2).2)).1) ((rNum d0.1 16 ((rNum d0.1 1 d0.2).2)).2)).2.1), Value.bool true].toArray E0 (0, 0))]) hI [115] rfl rfl (mle_refl _) (fun hS_ => ?_)⟩
        dsimp only [packV]
        have he0 : ((rOp1 d0.1 d0.2).1 : Ty.Den TOp) = (false, [], []) := by first | rfl | (exact fin0_rNext1_ok)
        have hm0_1 : ((rOp1 d0.1 d0.2).2.1 : Int) = (rBytes d0.1 ((rNum d0.1 16 ((rNum d0.1 1 d0.2).2)).1) ((rNum d0.1 16 ((rNum d0.1 1 d0.2).2)).2)).2.1 := by first | rfl | (exact fin0_rNext1_ok)
        have hm0_2 : ((rOp1 d0.1 d0.2).2.2 : Bool) = true := by first | rfl | (exact fin0_rNext1_ok)
        refine ⟨[Value.bool false, str ([]), str ([])], ?_, ?_, ?_, ?_⟩
        rotate_left
        · rw [he0]; exact (Ow.of (m := mnil) rfl (mk_Op (m := _) false [] [] bdm bdm))
        · rw [hm0_1, hm0_2, muns_one]
        · rw [hm0_1]; exact (show inK .i64 _ by simp only [inK]; (first | omega | (simp only [List.length_append, List.length_nil, List.length_cons, List.length_take, List.length_drop] at *; omega)))
        all_goals (first | rfl | (exact fin0_rNext1_ok))
      · -- FFF
        refine VC.skip ?_
        refine outN ?_
        refine VC.rs ?_
        refine VO.y rfl (.ldA 121 rfl tk35 rfl (cellsAt_one rfl rfl)) ?_
        refine VO.store (k := 3) (c' := [Value.bool (decide (((rNum d0.1 1 d0.2).1) = 1)), str ((rBytes d0.1 ((rNum d0.1 16 ((rNum d0.1 1 d0.2).2)).1) ((rNum d0.1 16 ((rNum d0.1 1 d0.2).2)).2)).1), str ([])]) 102 rfl rfl (.inl tk35) rfl rfl rfl rfl rfl ?_
        refine VO.k7 0 2 3 4 5 18 33 ?_
        refine VC.ret ?_
        refine ⟨_, _, res_run (rs := [.cell 2 35]) rfl (.agg 102 rfl tk35 rfl ⟨_, _, _, mone_self _ _, Nat.le_of_ble_eq_true rfl, rfl⟩ .nil), fun W_ hI => out_of (l := [mone g0 (.cells [Value.slice A0_0 (d0.1.length) (c0_0), Value.int .i64 ((rBytes d0.1 ((rNum d0.1 16 ((rNum d0.1 1 d0.2).2)).1) ((rNum d0.1 16 ((rNum d0.1 1 d0.2).2)).2)).2.1), Value.bool ((rBytes d0.1 ((rNum d0.1 16 ((rNum d0.1 1 d0.2).2)).1) ((rNum d0.1 16 ((rNum d0.1 1 d0.2).2)).2)).2.2)].toArray E0 (0, 0))]) hI [115] rfl rfl (mle_refl _) (fun hS_ => ?_)⟩
        dsimp only [packV]
        have he0 : ((rOp1 d0.1 d0.2).1 : Ty.Den TOp) = (decide (((rNum d0.1 1 d0.2).1) = 1), (rBytes d0.1 ((rNum d0.1 16 ((rNum d0.1 1 d0.2).2)).1) ((rNum d0.1 16 ((rNum d0.1 1 d0.2).2)).2)).1, []) := by first | rfl | (exact fin0_rNext1_ok)
        have hm0_1 : ((rOp1 d0.1 d0.2).2.1 : Int) = (rBytes d0.1 ((rNum d0.1 16 ((rNum d0.1 1 d0.2).2)).1) ((rNum d0.1 16 ((rNum d0.1 1 d0.2).2)).2)).2.1 := by first | rfl | (exact fin0_rNext1_ok)
        have hm0_2 : ((rOp1 d0.1 d0.2).2.2 : Bool) = (rBytes d0.1 ((rNum d0.1 16 ((rNum d0.1 1 d0.2).2)).1) ((rNum d0.1 16 ((rNum d0.1 1 d0.2).2)).2)).2.2 := by first | rfl | (exact fin0_rNext1_ok)
        refine ⟨[Value.bool (decide (((rNum d0.1 1 d0.2).1) = 1)), str ((rBytes d0.1 ((rNum d0.1 16 ((rNum d0.1 1 d0.2).2)).1) ((rNum d0.1 16 ((rNum d0.1 1 d0.2).2)).2)).1), str ([])], ?_, ?_, ?_, ?_⟩
        rotate_left
        · rw [he0]; exact (Ow.of (m := mnil) rfl (mk_Op (m := _) (decide (((rNum d0.1 1 d0.2).1) = 1)) ((rBytes d0.1 ((rNum d0.1 16 ((rNum d0.1 1 d0.2).2)).1) ((rNum d0.1 16 ((rNum d0.1 1 d0.2).2)).2)).1) [] bdm bdm))
        · rw [hm0_1, hm0_2, muns_one]
        · rw [hm0_1]; exact (show inK .i64 _ by simp only [inK]; (first | omega | (simp only [List.length_append, List.length_nil, List.length_cons, List.length_take, List.length_drop] at *; omega)))
        all_goals (first | rfl | (exact fin0_rNext1_ok))
theorem fin0_rfDecode_ok {P : Prop} (h : P := by first | (rw [dec_bad1 hp (by first | exact .inl (by omega) | exact .inr (by assumption)) (by assumption)] <;> first | rfl | done) | (rw [dec_bad2 hp (by first | exact .inl (by omega) | exact .inr (by assumption)) (by assumption)] <;> first | rfl | done) | (rw [dec_good hp (by first | exact .inl (by omega) | exact .inr (by assumption)) (by assumption) (by assumption)] <;> first | rfl | done)) : P := h
theorem rfDecode_ok (W : World) {v0 : Value} {d0 : List UInt8} (h0 : Rd (.sl .byte) (wm W) [v0] d0) (e0 : d0.length ≤ 140737488355000) : CallR Try.prog 20 [v0] W (mnil) (fun v m' => ∃ (s0 : List Value), v = .tuple #[.agg s0.toArray, .int .i64 ((runDecode d0).2)] ∧ Ow TRun m' s0 ((runDecode d0).1)) := by
  obtain ⟨A0, c0, rfl, l0, k0⟩ := h0.slice
  simp only [maxLen] at k0
  refine CallR.ofA (n := 45) Try.func20 rfl rfl rfl ?_
  refine VC.rs ?_
  refine VO.alloc 102 rfl tz32 (fun g1 => ?_)
  refine VO.as ?_
  refine VO.k3 0 2 3 ?_
  refine VC.rs ?_
  refine VO.mv ?_
  refine VO.y rfl (.bst (cs := [Value.slice A0 (d0.length) (c0), Value.int .i64 (0), Value.bool false]) rfl tst96 tz96 rfl) ?_
  refine VO.box (cs := [Value.slice A0 (d0.length) (c0), Value.int .i64 (0), Value.bool false]) 104 rfl rfl rfl (fun g3 => ?_)
  refine VO.as ?_
  refine VO.k4 0 2 3 4 ?_
  refine VC.rs ?_
  refine VO.mv ?_
  refine VO.call 104 rfl fnOk58 rfl rfl (fun W hW => rSmall_ok W (d0 := (d0, 0, false)) (hW.at (i := 104) rfl) (Rd.mono h0 (hW.out (i := 104) (j := 0) rfl rfl)) bdk 1048576 bdk (by first | assumption | exact ⟨by omega, by omega⟩ | exact ⟨by (simp; done), by (simp; done)⟩)) (fun v5 m5 hv5 => ?_)
  try dsimp only at hv5
  obtain ⟨rfl, rfl, w5_0_1⟩ := hv5
  have hfa6 := (rNum_ok (B := d0) (m := 1048576) (s := (0, false)) (by first | assumption | exact ⟨by omega, by omega⟩ | exact ⟨by (simp; done), by (simp; done)⟩) (by omega)).1
  have hfa7 := (rNum_ok (B := d0) (m := 1048576) (s := (0, false)) (by first | assumption | exact ⟨by omega, by omega⟩ | exact ⟨by (simp; done), by (simp; done)⟩) (by omega)).1.1
  have hfa8 := (rNum_ok (B := d0) (m := 1048576) (s := (0, false)) (by first | assumption | exact ⟨by omega, by omega⟩ | exact ⟨by (simp; done), by (simp; done)⟩) (by omega)).1.2
  have hfa9 := (rNum_ok (B := d0) (m := 1048576) (s := (0, false)) (by first | assumption | exact ⟨by omega, by omega⟩ | exact ⟨by (simp; done), by (simp; done)⟩) (by omega)).2
  simp only [inK] at w5_0_1
  refine VO.mv ?_
  refine VO.call 104 rfl fnOk58 rfl rfl (fun W hW => rSmall_ok W (d0 := (d0, (rNum d0 1048576 (0, false)).2)) (hW.at (i := 104) rfl) (Rd.mono h0 (hW.out (i := 104) (j := 0) rfl rfl)) bdk 1048576 bdk (by first | assumption | exact ⟨by omega, by omega⟩ | exact ⟨by (simp; done), by (simp; done)⟩)) (fun v10 m10 hv10 => ?_)
  try dsimp only at hv10
  obtain ⟨rfl, rfl, w10_0_1⟩ := hv10
  have hfa11 := (rNum_ok (B := d0) (m := 1048576) (s := ((rNum d0 1048576 (0, false)).2)) (by first | assumption | exact ⟨by omega, by omega⟩ | exact ⟨by (simp; done), by (simp; done)⟩) (by omega)).1
  have hfa12 := (rNum_ok (B := d0) (m := 1048576) (s := ((rNum d0 1048576 (0, false)).2)) (by first | assumption | exact ⟨by omega, by omega⟩ | exact ⟨by (simp; done), by (simp; done)⟩) (by omega)).1.1
  have hfa13 := (rNum_ok (B := d0) (m := 1048576) (s := ((rNum d0 1048576 (0, false)).2)) (by first | assumption | exact ⟨by omega, by omega⟩ | exact ⟨by (simp; done), by (simp; done)⟩) (by omega)).1.2
  have hfa14 := (rNum_ok (B := d0) (m := 1048576) (s := ((rNum d0 1048576 (0, false)).2)) (by first | assumption | exact ⟨by omega, by omega⟩ | exact ⟨by (simp; done), by (simp; done)⟩) (by omega)).2
  simp only [inK] at w10_0_1
  refine VO.y rfl (.bst (cs := [Value.int .i64 ((rNum d0 1048576 (0, false)).1), Value.int .i64 ((rNum d0 1048576 ((rNum d0 1048576 (0, false)).2)).1), Value.slice none (0) (0)]) rfl tst32 tz32 rfl) ?_
  refine VO.alloc 116 rfl tz32 (fun g15 => ?_)
  refine VO.store (k := 3) (c' := [Value.int .i64 ((rNum d0 1048576 (0, false)).1), Value.int .i64 ((rNum d0 1048576 ((rNum d0 1048576 (0, false)).2)).1), Value.slice none (0) (0)]) 116 rfl rfl (.inl tk32) rfl rfl rfl rfl rfl ?_
  refine VO.kp [116, 104, 102, 0] [(116, mone g15 (.cells [Value.int .i64 ((rNum d0 1048576 (0, false)).1), Value.int .i64 ((rNum d0 1048576 ((rNum d0 1048576 (0, false)).2)).1), Value.slice none (0) (0)].toArray 32 (0, 0))), (104, mone g3 (.cells [Value.slice A0 (d0.length) (c0), Value.int .i64 ((rNum d0 1048576 ((rNum d0 1048576 (0, false)).2)).2.1), Value.bool ((rNum d0 1048576 ((rNum d0 1048576 (0, false)).2)).2.2)].toArray 96 (0, 0))), (102, mone g1 (.cells [Value.int .i64 (0), Value.int .i64 (0), Value.slice none (0) (0)].toArray 32 (0, 0))), (0, wm W)] ?_
  refine VO.k5 0 2 3 4 5 ?_
  refine VC.seq ?_
  refine VC.rs ?_
  refine VO.mv ?_
  refine VO.call 104 rfl fnOk58 rfl rfl (fun W hW => rSmall_ok W (d0 := (d0, (rNum d0 1048576 ((rNum d0 1048576 (0, false)).2)).2)) (hW.at (i := 104) rfl) (Rd.mono h0 (hW.out (i := 104) (j := 0) rfl rfl)) bdk 1024 bdk (by first | assumption | exact ⟨by omega, by omega⟩ | exact ⟨by (simp; done), by (simp; done)⟩)) (fun v17 m17 hv17 => ?_)
  try dsimp only at hv17
  obtain ⟨rfl, rfl, w17_0_1⟩ := hv17
  have hfa18 := (rNum_ok (B := d0) (m := 1024) (s := ((rNum d0 1048576 ((rNum d0 1048576 (0, false)).2)).2)) (by first | assumption | exact ⟨by omega, by omega⟩ | exact ⟨by (simp; done), by (simp; done)⟩) (by omega)).1
  have hfa19 := (rNum_ok (B := d0) (m := 1024) (s := ((rNum d0 1048576 ((rNum d0 1048576 (0, false)).2)).2)) (by first | assumption | exact ⟨by omega, by omega⟩ | exact ⟨by (simp; done), by (simp; done)⟩) (by omega)).1.1
  have hfa20 := (rNum_ok (B := d0) (m := 1024) (s := ((rNum d0 1048576 ((rNum d0 1048576 (0, false)).2)).2)) (by first | assumption | exact ⟨by omega, by omega⟩ | exact ⟨by (simp; done), by (simp; done)⟩) (by omega)).1.2
  have hfa21 := (rNum_ok (B := d0) (m := 1024) (s := ((rNum d0 1048576 ((rNum d0 1048576 (0, false)).2)).2)) (by first | assumption | exact ⟨by omega, by omega⟩ | exact ⟨by (simp; done), by (simp; done)⟩) (by omega)).2
  simp only [inK] at w17_0_1
  refine VO.as ?_
  refine VO.k6 0 2 3 4 5 6 ?_
  refine VC.block ?_
  refine VC.inv ((122, mnil) :: _) (fun _ h => h.nilc 122) ?_
  refine VC.loop (G := Int × (List DOp) × (Option Addr) × Nat × Mem × Int × Bool) (fun g => [(6, Value.int .i64 ((g.1))), (0, Value.slice A0 (d0.length) (c0)), (2, Value.pointer (some ⟨g1, 0, none⟩)), (3, Value.int .i64 (0)), (4, Value.pointer (some ⟨g3, 0, none⟩)), (5, Value.pointer (some ⟨g15, 0, none⟩))]) (fun g => [(122, (g.2.2.2.2.1)), (104, mone g3 (.cells [Value.slice A0 (d0.length) (c0), Value.int .i64 ((g.2.2.2.2.2.1)), Value.bool (g.2.2.2.2.2.2)].toArray 96 (0, 0))), (116, mone g15 (.cells [Value.int .i64 ((rNum d0 1048576 (0, false)).1), Value.int .i64 ((rNum d0 1048576 ((rNum d0 1048576 (0, false)).2)).1), Value.slice (g.2.2.1) ((g.2.1).length) ((g.2.2.2.1))].toArray 32 (0, 0))), (102, mone g1 (.cells [Value.int .i64 (0), Value.int .i64 (0), Value.slice none (0) (0)].toArray 32 (0, 0))), (0, wm W)]) (fun g => (pOps1 d0 (rNum d0 1024 (rNum d0 1048576 (rNum d0 1048576 (0, false)).2).2).1.toNat (rNum d0 1024 (rNum d0 1048576 (rNum d0 1048576 (0, false)).2).2).2 = ((g.2.1) ++ (pOps1 d0 (g.1).toNat ((g.2.2.2.2.2.1), (g.2.2.2.2.2.2))).1, (pOps1 d0 (g.1).toNat ((g.2.2.2.2.2.1), (g.2.2.2.2.2.2))).2)) ∧ (rOk d0 ((g.2.2.2.2.2.1), (g.2.2.2.2.2.2))) ∧ ((g.1) ≤ 1024) ∧ ((g.2.1).length + (g.1).toNat ≤ 1024) ∧ (OwnL TOp (g.2.2.2.2.1) mnil (.slice (g.2.2.1) (g.2.1).length (g.2.2.2.1)) (g.2.1))) (fun g => (g.1).toNat) ((rNum d0 1024 ((rNum d0 1048576 ((rNum d0 1048576 (0, false)).2)).2)).1, [], none, 0, mnil, (rNum d0 1024 ((rNum d0 1048576 ((rNum d0 1048576 (0, false)).2)).2)).2.1, (rNum d0 1024 ((rNum d0 1048576 ((rNum d0 1048576 (0, false)).2)).2)).2.2) (⟨by rfl, by assumption, by omega, by (simp; omega), (OwnL.nil TOp mnil mnil)⟩) ⟨⟨rfl, rfl, rfl, rfl, rfl, rfl, trivial⟩, fun _ h => h.sub [122, 104, 116, 102, 0]⟩ ?_
  rintro ⟨k, l, l_A, l_c, l_m, at_, bad⟩ ⟨hp, hok, hk, hlen, h_l⟩
  replace hp : pOps1 d0 (rNum d0 1024 (rNum d0 1048576 (rNum d0 1048576 (0, false)).2).2).1.toNat (rNum d0 1024 (rNum d0 1048576 (rNum d0 1048576 (0, false)).2).2).2 = (l ++ (pOps1 d0 k.toNat (at_, bad)).1, (pOps1 d0 k.toNat (at_, bad)).2) := hp
  replace hok : rOk d0 (at_, bad) := hok
  replace hk : k ≤ 1024 := hk
  replace hlen : l.length + k.toNat ≤ 1024 := hlen
  replace h_l : OwnL TOp l_m mnil (.slice l_A l.length l_c) l := h_l
  show VC _ _ _ _ _ [(6, Value.int .i64 (k)), (0, Value.slice A0 (d0.length) (c0)), (2, Value.pointer (some ⟨g1, 0, none⟩)), (3, Value.int .i64 (0)), (4, Value.pointer (some ⟨g3, 0, none⟩)), (5, Value.pointer (some ⟨g15, 0, none⟩))] [(122, l_m), (104, mone g3 (.cells [Value.slice A0 (d0.length) (c0), Value.int .i64 (at_), Value.bool bad].toArray 96 (0, 0))), (116, mone g15 (.cells [Value.int .i64 ((rNum d0 1048576 (0, false)).1), Value.int .i64 ((rNum d0 1048576 ((rNum d0 1048576 (0, false)).2)).1), Value.slice l_A (l.length) (l_c)].toArray 32 (0, 0))), (102, mone g1 (.cells [Value.int .i64 (0), Value.int .i64 (0), Value.slice none (0) (0)].toArray 32 (0, 0))), (0, wm W)]
  have l_l : l.length ≤ l_c := by obtain ⟨_, _, he, hl, _⟩ := h_l.slice; simp only [Value.slice.injEq] at he; omega
  have k_l : l_c ≤ 9223372036854775807 := by obtain ⟨_, _, he, _, hl⟩ := h_l.slice; simp only [Value.slice.injEq, maxLen] at he hl; omega
  obtain ⟨hoka, hokb⟩ := (show 0 ≤ at_ ∧ at_ ≤ d0.length from hok)
  refine VC.seq ?_
  refine VC.rs ?_
  refine VO.mv ?_
  refine VO.y rfl (.gtr rfl rfl) ?_
  refine VO.mv ?_
  refine VO.dec (t := 19) rfl (fun hc23 => ?_) (fun hc23 => ?_)
  · -- T
    refine VO.gy rfl ⟨_, rfl, rfl⟩ (.mv rfl) ?_
    refine VO.gy rfl ⟨_, rfl, rfl⟩ (.nilp rfl) ?_
    refine VO.gy rfl ⟨_, rfl, rfl⟩ (.fa rfl tst96 rfl) ?_
    refine VO.gy rfl ⟨_, rfl, rfl⟩ (.ld1 104 rfl tk4 rfl (cellsAt_one rfl rfl)) ?_
    refine VO.gy rfl ⟨_, rfl, rfl⟩ (.not rfl) ?_
    refine VO.y rfl (.pT rfl rfl) ?_
    refine VO.k7 0 2 3 4 5 6 25 ?_
    refine VC.condBN rfl (fun hc24 => ?_) (fun hc24 => ?_)
    · -- TT
      refine VC.skip ?_
      refine outN ?_
      refine VC.seq ?_
      refine VC.block ?_
      refine VC.regD _ 5 [(0, true), (1, true), (2, true), (3, false), (4, false)] follows (by kernel_rfl) (fun _ h => h.sub [122, 116, 102, 0]) ?_
      refine VD.y rfl rfl (.inl rfl) (.fa rfl tst32 rfl) ?_
      refine VD.y rfl rfl (.inl rfl) (.ld1 116 rfl tk30 rfl (cellsAt_one rfl rfl)) ?_
      refine VD.y rfl rfl (.inl rfl) (.mv rfl) ?_
      refine VD.call 104 rfl rfl (.inl rfl) fnOk59 rfl rfl (fun _ _ h => h.sub [122, 116, 102, 0]) (fun W hW => rNext1_ok W (d0 := (d0, at_, bad)) (hW.at (i := 104) rfl) (Rd.mono h0 (hW.out (i := 104) (j := 0) rfl rfl)) bdk (by first | assumption | exact ⟨by omega, by omega⟩ | exact ⟨by (simp; done), by (simp; done)⟩)) (fun v25 m25 hv25 => ?_)
      try dsimp only at hv25
      obtain ⟨s25_0, rfl, f25_0, rfl, w25_0_1⟩ := hv25
      have hfa26 := (rOp1_ok (B := d0) (s := (at_, bad)) (by first | assumption | exact ⟨by omega, by omega⟩ | exact ⟨by (simp; done), by (simp; done)⟩)).1
      have hfa27 := (rOp1_ok (B := d0) (s := (at_, bad)) (by first | assumption | exact ⟨by omega, by omega⟩ | exact ⟨by (simp; done), by (simp; done)⟩)).1.1
      have hfa28 := (rOp1_ok (B := d0) (s := (at_, bad)) (by first | assumption | exact ⟨by omega, by omega⟩ | exact ⟨by (simp; done), by (simp; done)⟩)).1.2
      have hfa29 := (rOp1_ok (B := d0) (s := (at_, bad)) (by first | assumption | exact ⟨by omega, by omega⟩ | exact ⟨by (simp; done), by (simp; done)⟩)).2.1
      have hfa30 := (rOp1_ok (B := d0) (s := (at_, bad)) (by first | assumption | exact ⟨by omega, by omega⟩ | exact ⟨by (simp; done), by (simp; done)⟩)).2.2
      simp only [inK] at w25_0_1
      obtain ⟨rfl, q25_0_1, q25_0_2⟩ := open_Op (x0 := ((rOp1 d0 (at_, bad)).1).1) (x1 := ((rOp1 d0 (at_, bad)).1).2.1) (x2 := ((rOp1 d0 (at_, bad)).1).2.2) (f25_0.rd (mle_refl _))
      simp only [maxLen] at q25_0_1
      simp only [maxLen] at q25_0_2
      refine VD.bsl (cs := [Value.bool (((rOp1 d0 (at_, bad)).1).1), str (((rOp1 d0 (at_, bad)).1).2.1), str (((rOp1 d0 (at_, bad)).1).2.2)]) 132 rfl rfl rfl tsl30 tz35 rfl rfl (fun _ h => h.sub [122, 116, 102, 0]) (fun g31 => ?_)
      refine VD.nil rfl ?_ rfl
      obtain ⟨mo33, cs33, hM33, hA33, hC33⟩ := h_l
      refine VO.app 122 rfl rfl rfl tsl30 tz35 rfl rfl hM33 hA33 (.row 132 _ _ _ 1 1 _ _ Try.underlying30 rfl (cellsAt_one rfl rfl)) (by simp [Value.oneCell']) bdm bd (by decide) (fun v33 m33 hN33 => ?_)
      have ho33 : OwnL TOp m33 mnil v33 (l ++ [((rOp1 d0 (at_, bad)).1)]) := OwnL.one hC33 hN33 (show Rd TOp _ _ ((rOp1 d0 (at_, bad)).1) from (mk_Op (m := _) (((rOp1 d0 (at_, bad)).1).1) (((rOp1 d0 (at_, bad)).1).2.1) (((rOp1 d0 (at_, bad)).1).2.2) bdm bdm))
      obtain ⟨A33, c33, rfl, l33, k33⟩ := ho33.slice
      simp only [maxLen] at k33
      refine VO.y rfl (.fa rfl tst32 rfl) ?_
      refine VO.store (k := 1) (c' := [Value.int .i64 ((rNum d0 1048576 (0, false)).1), Value.int .i64 ((rNum d0 1048576 ((rNum d0 1048576 (0, false)).2)).1), Value.slice A33 ((l ++ [((rOp1 d0 (at_, bad)).1)]).length) (c33)]) 116 rfl rfl (.inr ⟨tk30, rfl⟩) rfl rfl rfl rfl rfl ?_
      refine VO.kp [104, 122, 116, 102, 0] [(104, mone g3 (.cells [Value.slice A0 (d0.length) (c0), Value.int .i64 ((rOp1 d0 (at_, bad)).2.1), Value.bool ((rOp1 d0 (at_, bad)).2.2)].toArray 96 (0, 0))), (122, m33), (116, mone g15 (.cells [Value.int .i64 ((rNum d0 1048576 (0, false)).1), Value.int .i64 ((rNum d0 1048576 ((rNum d0 1048576 (0, false)).2)).1), Value.slice A33 ((l ++ [((rOp1 d0 (at_, bad)).1)]).length) (c33)].toArray 32 (0, 0))), (102, mone g1 (.cells [Value.int .i64 (0), Value.int .i64 (0), Value.slice none (0) (0)].toArray 32 (0, 0))), (0, wm W)] ?_
      refine VO.k7 0 2 3 4 5 6 25 ?_
      refine outBN ?_
      refine outN ?_
      refine VC.reg ?_
      refine VO.mv ?_
      refine VO.y rfl (.sub rfl rfl rfl ⟨bd, bd⟩) ?_
      refine VO.as ?_
      refine VO.k7 0 2 3 4 5 6 25 ?_
      exact outN ⟨⟨k - 1, l ++ [((rOp1 d0 (at_, bad)).1)], A33, c33, m33, (rOp1 d0 (at_, bad)).2.1, (rOp1 d0 (at_, bad)).2.2⟩, ⟨by exact ops1_step hp (by omega) (by assumption), by assumption, by omega, by (simp only [List.length_append, List.length_cons, List.length_nil]; omega), ho33⟩, bd, ⟨⟨rfl, rfl, rfl, rfl, rfl, rfl, trivial⟩, fun _ h => Inv.sub h [122, 104, 116, 102, 0]⟩⟩
    · -- TF
      refine VC.exit ?_
      refine outE ?_
      refine outE ?_
      refine outBB ?_
      refine outN ?_
      refine VC.seq ?_
      refine VC.rs ?_
      refine VO.mv ?_
      refine VO.call 104 rfl fnOk60 rfl rfl (fun W hW => rDone_ok W (d0 := (d0, at_, bad)) (hW.at (i := 104) rfl) (Rd.mono h0 (hW.out (i := 104) (j := 0) rfl rfl)) bdk) (fun v34 m34 hv34 => ?_)
      try dsimp only at hv34
      obtain ⟨rfl, rfl, w34_0_1⟩ := hv34
      simp only [inK] at w34_0_1
      refine VO.y rfl (.notD rfl) ?_
      refine VO.mv ?_
      refine VO.dec (t := 38) rfl (fun hc35 => ?_) (fun hc35 => ?_)
      · -- TFT
        refine VO.gN ?_
        refine VO.gN ?_
        refine VO.gN ?_
        refine VO.y rfl (.pT rfl rfl) ?_
        refine VO.kp [104, 122, 116, 102, 0] [(104, mone g3 (.cells [Value.slice A0 (d0.length) (c0), Value.int .i64 (at_), Value.bool bad].toArray 96 (0, 0))), (122, l_m), (116, mone g15 (.cells [Value.int .i64 ((rNum d0 1048576 (0, false)).1), Value.int .i64 ((rNum d0 1048576 ((rNum d0 1048576 (0, false)).2)).1), Value.slice l_A (l.length) (l_c)].toArray 32 (0, 0))), (102, mone g1 (.cells [Value.int .i64 (0), Value.int .i64 (0), Value.slice none (0) (0)].toArray 32 (0, 0))), (0, wm W)] ?_
        refine VO.k8 0 2 3 4 5 6 25 42 ?_
        refine VC.condT rfl ?_
        refine VC.rs ?_
        refine VO.y rfl (.bst (cs := [Value.int .i64 (0), Value.int .i64 (0), Value.slice none (0) (0)]) rfl tst32 tz32 rfl) ?_
        refine VO.store (k := 3) (c' := [Value.int .i64 (0), Value.int .i64 (0), Value.slice none (0) (0)]) 102 rfl rfl (.inl tk32) rfl rfl rfl rfl rfl ?_
        refine VO.as ?_
        refine VO.k8 0 2 3 4 5 6 25 42 ?_
        refine VC.ret ?_
        refine outR ?_
        refine ⟨_, _, res_run (rs := [.cell 2 32, .tmp 3]) rfl (.agg 102 rfl tk32 rfl ⟨_, _, _, mone_self _ _, Nat.le_of_ble_eq_true rfl, rfl⟩ (.tmp rfl .nil)), fun W_ hI => out_of (l := []) hI [] rfl rfl (mle_refl _) (fun hS_ => ?_)⟩
        dsimp only [packV]
        have he0 : ((runDecode d0).1 : Ty.Den TRun) = (0, 0, []) := by first | rfl | (exact fin0_rfDecode_ok)
        refine ⟨[Value.int .i64 (0), Value.int .i64 (0), Value.slice none (0) (0)], ?_, ?_⟩
        rotate_left
        · rw [he0]; exact (mkO_Run 0 0 [] (Seps.nilAt 0 hS_) bdk bdk (Ow.nil _ _))
        all_goals (first | rfl | (exact fin0_rfDecode_ok))
      · -- TFF
        refine VO.gy rfl ⟨_, rfl, rfl⟩ (.ldA 116 rfl tk32 rfl (cellsAt_one rfl rfl)) ?_
        refine VO.gcallN 136 rfl ⟨_, rfl, rfl⟩ fnOk21 rfl (fun W hW => rfCheck_ok W (mk_Run (m := wm W) ((rNum d0 1048576 (0, false)).1) ((rNum d0 1048576 ((rNum d0 1048576 (0, false)).2)).1) l bdk bdk (OwnL.rd h_l (hW.at (i := 122) rfl) (mle_nil _)))) (fun v36 m36 hv36 => ?_)
        try dsimp only at hv36
        subst hv36
        have hfa37 := runCheck_range ((rNum d0 1048576 (0, false)).1, (rNum d0 1048576 ((rNum d0 1048576 (0, false)).2)).1, l)
        refine VO.gy rfl ⟨_, rfl, rfl⟩ (.neq rfl rfl) ?_
        refine VO.y rfl (.pF rfl rfl) ?_
        refine VO.kp [104, 122, 116, 102, 0] [(104, mone g3 (.cells [Value.slice A0 (d0.length) (c0), Value.int .i64 (at_), Value.bool bad].toArray 96 (0, 0))), (122, l_m), (116, mone g15 (.cells [Value.int .i64 ((rNum d0 1048576 (0, false)).1), Value.int .i64 ((rNum d0 1048576 ((rNum d0 1048576 (0, false)).2)).1), Value.slice l_A (l.length) (l_c)].toArray 32 (0, 0))), (102, mone g1 (.cells [Value.int .i64 (0), Value.int .i64 (0), Value.slice none (0) (0)].toArray 32 (0, 0))), (0, wm W)] ?_
        refine VO.k8 0 2 3 4 5 6 25 42 ?_
        refine VC.cond rfl (fun hc38 => ?_) (fun hc38 => ?_)
        · -- TFFT
          refine VC.rs ?_
          refine VO.y rfl (.bst (cs := [Value.int .i64 (0), Value.int .i64 (0), Value.slice none (0) (0)]) rfl tst32 tz32 rfl) ?_
          refine VO.store (k := 3) (c' := [Value.int .i64 (0), Value.int .i64 (0), Value.slice none (0) (0)]) 102 rfl rfl (.inl tk32) rfl rfl rfl rfl rfl ?_
          refine VO.as ?_
          refine VO.k8 0 2 3 4 5 6 25 42 ?_
          refine VC.ret ?_
          refine outR ?_
          refine ⟨_, _, res_run (rs := [.cell 2 32, .tmp 3]) rfl (.agg 102 rfl tk32 rfl ⟨_, _, _, mone_self _ _, Nat.le_of_ble_eq_true rfl, rfl⟩ (.tmp rfl .nil)), fun W_ hI => out_of (l := []) hI [] rfl rfl (mle_refl _) (fun hS_ => ?_)⟩
          dsimp only [packV]
          have he0 : ((runDecode d0).1 : Ty.Den TRun) = (0, 0, []) := by first | rfl | (exact fin0_rfDecode_ok)
          refine ⟨[Value.int .i64 (0), Value.int .i64 (0), Value.slice none (0) (0)], ?_, ?_⟩
          rotate_left
          · rw [he0]; exact (mkO_Run 0 0 [] (Seps.nilAt 0 hS_) bdk bdk (Ow.nil _ _))
          all_goals (first | rfl | (exact fin0_rfDecode_ok))
        · -- TFFF
          refine VC.skip ?_
          refine outN ?_
          refine VC.rs ?_
          refine VO.y rfl (.ldA 116 rfl tk32 rfl (cellsAt_one rfl rfl)) ?_
          refine VO.store (k := 3) (c' := [Value.int .i64 ((rNum d0 1048576 (0, false)).1), Value.int .i64 ((rNum d0 1048576 ((rNum d0 1048576 (0, false)).2)).1), Value.slice l_A (l.length) (l_c)]) 102 rfl rfl (.inl tk32) rfl rfl rfl rfl rfl ?_
          refine VO.as ?_
          refine VO.k8 0 2 3 4 5 6 25 42 ?_
          refine VC.ret ?_
          refine ⟨_, _, res_run (rs := [.cell 2 32, .tmp 3]) rfl (.agg 102 rfl tk32 rfl ⟨_, _, _, mone_self _ _, Nat.le_of_ble_eq_true rfl, rfl⟩ (.tmp rfl .nil)), fun W_ hI => out_of (l := [l_m]) hI [122] rfl rfl (mle_refl _) (fun hS_ => ?_)⟩
          dsimp only [packV]
          have he0 : ((runDecode d0).1 : Ty.Den TRun) = ((rNum d0 1048576 (0, false)).1, (rNum d0 1048576 ((rNum d0 1048576 (0, false)).2)).1, l) := by first | rfl | (exact fin0_rfDecode_ok)
          refine ⟨[Value.int .i64 ((rNum d0 1048576 (0, false)).1), Value.int .i64 ((rNum d0 1048576 ((rNum d0 1048576 (0, false)).2)).1), Value.slice l_A (l.length) (l_c)], ?_, ?_⟩
          rotate_left
          · rw [he0]; exact (mkO_Run ((rNum d0 1048576 (0, false)).1) ((rNum d0 1048576 ((rNum d0 1048576 (0, false)).2)).1) l hS_ bdk bdk (OwnL.ow h_l rfl))
          all_goals (first | rfl | (exact fin0_rfDecode_ok))
  · -- F
    refine VO.gN ?_
    refine VO.gN ?_
    refine VO.gN ?_
    refine VO.gN ?_
    refine VO.gN ?_
    refine VO.y rfl (.pF rfl rfl) ?_
    refine VO.k7 0 2 3 4 5 6 25 ?_
    refine VC.condF rfl ?_
    refine VC.exit ?_
    refine outE ?_
    refine outE ?_
    refine outBB ?_
    refine outN ?_
    refine VC.seq ?_
    refine VC.rs ?_
    refine VO.mv ?_
    refine VO.call 104 rfl fnOk60 rfl rfl (fun W hW => rDone_ok W (d0 := (d0, at_, bad)) (hW.at (i := 104) rfl) (Rd.mono h0 (hW.out (i := 104) (j := 0) rfl rfl)) bdk) (fun v39 m39 hv39 => ?_)
    try dsimp only at hv39
    obtain ⟨rfl, rfl, w39_0_1⟩ := hv39
    simp only [inK] at w39_0_1
    refine VO.y rfl (.notD rfl) ?_
    refine VO.mv ?_
    refine VO.dec (t := 38) rfl (fun hc40 => ?_) (fun hc40 => ?_)
    · -- FT
      refine VO.gN ?_
      refine VO.gN ?_
      refine VO.gN ?_
      refine VO.y rfl (.pT rfl rfl) ?_
      refine VO.kp [104, 122, 116, 102, 0] [(104, mone g3 (.cells [Value.slice A0 (d0.length) (c0), Value.int .i64 (at_), Value.bool bad].toArray 96 (0, 0))), (122, l_m), (116, mone g15 (.cells [Value.int .i64 ((rNum d0 1048576 (0, false)).1), Value.int .i64 ((rNum d0 1048576 ((rNum d0 1048576 (0, false)).2)).1), Value.slice l_A (l.length) (l_c)].toArray 32 (0, 0))), (102, mone g1 (.cells [Value.int .i64 (0), Value.int .i64 (0), Value.slice none (0) (0)].toArray 32 (0, 0))), (0, wm W)] ?_
      refine VO.k8 0 2 3 4 5 6 25 42 ?_
      refine VC.condT rfl ?_
      refine VC.rs ?_
      refine VO.y rfl (.bst (cs := [Value.int .i64 (0), Value.int .i64 (0), Value.slice none (0) (0)]) rfl tst32 tz32 rfl) ?_
      refine VO.store (k := 3) (c' := [Value.int .i64 (0), Value.int .i64 (0), Value.slice none (0) (0)]) 102 rfl rfl (.inl tk32) rfl rfl rfl rfl rfl ?_
      refine VO.as ?_
      refine VO.k8 0 2 3 4 5 6 25 42 ?_
      refine VC.ret ?_
      refine outR ?_
      refine ⟨_, _, res_run (rs := [.cell 2 32, .tmp 3]) rfl (.agg 102 rfl tk32 rfl ⟨_, _, _, mone_self _ _, Nat.le_of_ble_eq_true rfl, rfl⟩ (.tmp rfl .nil)), fun W_ hI => out_of (l := []) hI [] rfl rfl (mle_refl _) (fun hS_ => ?_)⟩
      dsimp only [packV]
      have he0 : ((runDecode d0).1 : Ty.Den TRun) = (0, 0, []) := by first | rfl | (exact fin0_rfDecode_ok)
      refine ⟨[Value.int .i64 (0), Value.int .i64 (0), Value.slice none (0) (0)], ?_, ?_⟩
      rotate_left
      · rw [he0]; exact (mkO_Run 0 0 [] (Seps.nilAt 0 hS_) bdk bdk (Ow.nil _ _))
      all_goals (first | rfl | (exact fin0_rfDecode_ok))
    · -- FF
      refine VO.gy rfl ⟨_, rfl, rfl⟩ (.ldA 116 rfl tk32 rfl (cellsAt_one rfl rfl)) ?_
      refine VO.gcallN 141 rfl ⟨_, rfl, rfl⟩ fnOk21 rfl (fun W hW => rfCheck_ok W (mk_Run (m := wm W) ((rNum d0 1048576 (0, false)).1) ((rNum d0 1048576 ((rNum d0 1048576 (0, false)).2)).1) l bdk bdk (OwnL.rd h_l (hW.at (i := 122) rfl) (mle_nil _)))) (fun v41 m41 hv41 => ?_)
      try dsimp only at hv41
      subst hv41
      have hfa42 := runCheck_range ((rNum d0 1048576 (0, false)).1, (rNum d0 1048576 ((rNum d0 1048576 (0, false)).2)).1, l)
      refine VO.gy rfl ⟨_, rfl, rfl⟩ (.neq rfl rfl) ?_
      refine VO.y rfl (.pF rfl rfl) ?_
      refine VO.kp [104, 122, 116, 102, 0] [(104, mone g3 (.cells [Value.slice A0 (d0.length) (c0), Value.int .i64 (at_), Value.bool bad].toArray 96 (0, 0))), (122, l_m), (116, mone g15 (.cells [Value.int .i64 ((rNum d0 1048576 (0, false)).1), Value.int .i64 ((rNum d0 1048576 ((rNum d0 1048576 (0, false)).2)).1), Value.slice l_A (l.length) (l_c)].toArray 32 (0, 0))), (102, mone g1 (.cells [Value.int .i64 (0), Value.int .i64 (0), Value.slice none (0) (0)].toArray 32 (0, 0))), (0, wm W)] ?_
      refine VO.k8 0 2 3 4 5 6 25 42 ?_
      refine VC.cond rfl (fun hc43 => ?_) (fun hc43 => ?_)
      · -- FFT
        refine VC.rs ?_
        refine VO.y rfl (.bst (cs := [Value.int .i64 (0), Value.int .i64 (0), Value.slice none (0) (0)]) rfl tst32 tz32 rfl) ?_
        refine VO.store (k := 3) (c' := [Value.int .i64 (0), Value.int .i64 (0), Value.slice none (0) (0)]) 102 rfl rfl (.inl tk32) rfl rfl rfl rfl rfl ?_
        refine VO.as ?_
        refine VO.k8 0 2 3 4 5 6 25 42 ?_
        refine VC.ret ?_
        refine outR ?_
        refine ⟨_, _, res_run (rs := [.cell 2 32, .tmp 3]) rfl (.agg 102 rfl tk32 rfl ⟨_, _, _, mone_self _ _, Nat.le_of_ble_eq_true rfl, rfl⟩ (.tmp rfl .nil)), fun W_ hI => out_of (l := []) hI [] rfl rfl (mle_refl _) (fun hS_ => ?_)⟩
        dsimp only [packV]
        have he0 : ((runDecode d0).1 : Ty.Den TRun) = (0, 0, []) := by first | rfl | (exact fin0_rfDecode_ok)
        refine ⟨[Value.int .i64 (0), Value.int .i64 (0), Value.slice none (0) (0)], ?_, ?_⟩
        rotate_left
        · rw [he0]; exact (mkO_Run 0 0 [] (Seps.nilAt 0 hS_) bdk bdk (Ow.nil _ _))
        all_goals (first | rfl | (exact fin0_rfDecode_ok))
      · -- FFF
        refine VC.skip ?_
        refine outN ?_
        refine VC.rs ?_
        refine VO.y rfl (.ldA 116 rfl tk32 rfl (cellsAt_one rfl rfl)) ?_
        refine VO.store (k := 3) (c' := [Value.int .i64 ((rNum d0 1048576 (0, false)).1), Value.int .i64 ((rNum d0 1048576 ((rNum d0 1048576 (0, false)).2)).1), Value.slice l_A (l.length) (l_c)]) 102 rfl rfl (.inl tk32) rfl rfl rfl rfl rfl ?_
        refine VO.as ?_
        refine VO.k8 0 2 3 4 5 6 25 42 ?_
        refine VC.ret ?_
        refine ⟨_, _, res_run (rs := [.cell 2 32, .tmp 3]) rfl (.agg 102 rfl tk32 rfl ⟨_, _, _, mone_self _ _, Nat.le_of_ble_eq_true rfl, rfl⟩ (.tmp rfl .nil)), fun W_ hI => out_of (l := [l_m]) hI [122] rfl rfl (mle_refl _) (fun hS_ => ?_)⟩
        dsimp only [packV]
        have he0 : ((runDecode d0).1 : Ty.Den TRun) = ((rNum d0 1048576 (0, false)).1, (rNum d0 1048576 ((rNum d0 1048576 (0, false)).2)).1, l) := by first | rfl | (exact fin0_rfDecode_ok)
        refine ⟨[Value.int .i64 ((rNum d0 1048576 (0, false)).1), Value.int .i64 ((rNum d0 1048576 ((rNum d0 1048576 (0, false)).2)).1), Value.slice l_A (l.length) (l_c)], ?_, ?_⟩
        rotate_left
        · rw [he0]; exact (mkO_Run ((rNum d0 1048576 (0, false)).1) ((rNum d0 1048576 ((rNum d0 1048576 (0, false)).2)).1) l hS_ bdk bdk (OwnL.ow h_l rfl))
        all_goals (first | rfl | (exact fin0_rfDecode_ok))
theorem SameRuns_ok (W : World) {v0 : Value} {d0 : List DRun} (h0 : Rd (.sl TRun) (wm W) [v0] d0) {v1 : Value} {d1 : List DRun} (h1 : Rd (.sl TRun) (wm W) [v1] d1) : CallR Try.prog 23 [v0, v1] W (mnil) (fun v m' => v = .bool (decide (d0 = d1))) := by
  obtain ⟨A0, c0, rfl, l0, k0⟩ := h0.slice
  simp only [maxLen] at k0
  obtain ⟨A1, c1, rfl, l1, k1⟩ := h1.slice
  simp only [maxLen] at k1
  refine CallR.ofA (n := 55) Try.func23 rfl rfl rfl ?_
  refine VC.rs ?_
  refine VO.as ?_
  refine VO.k3 0 1 4 ?_
  refine VC.seq ?_
  refine VC.rs ?_
  refine VO.mv ?_
  refine VO.y rfl (.lenS rfl tsl47) ?_
  refine VO.mv ?_
  refine VO.y rfl (.lenS rfl tsl47) ?_
  refine VO.y rfl (.neq rfl rfl) ?_
  refine VO.k4 0 1 4 10 ?_
  refine VC.cond rfl (fun hc1 => ?_) (fun hc1 => ?_)
  · -- T
    refine VC.rs ?_
    refine VO.as ?_
    refine VO.kp [0] [(0, wm W)] ?_
    refine VO.k4 0 1 4 10 ?_
    refine VC.ret ?_
    refine outR ?_
    refine ⟨_, _, res_run (rs := [.tmp 4]) rfl (.tmp rfl .nil), fun W_ hI => out_of (l := []) hI [] rfl rfl (mle_refl _) (fun hS_ => ?_)⟩
    dsimp only [packV]
    all_goals (first | rfl | (simp [len_ne hc1]))
  · -- F
    refine VC.skip ?_
    refine outN ?_
    refine VC.seq ?_
    refine VC.rs ?_
    refine VO.as ?_
    refine VO.kp [0] [(0, wm W)] ?_
    refine VO.k5 0 1 4 5 10 ?_
    refine VC.block ?_
    refine VC.loop (G := Nat) (fun k => [(5, Value.int .i64 (((k : Nat) : Int))), (0, Value.slice A0 (d0.length) (c0)), (1, Value.slice A1 (d1.length) (c1)), (10, Value.bool (decide (¬ ((d0.length : Nat) : Int) = ((d1.length : Nat) : Int))))]) (fun k => [(0, wm W)]) (fun k => (k ≤ d0.length) ∧ (d0.take k = d1.take k)) (fun k => d0.length - k) 0 (⟨by omega, by rfl⟩) ⟨⟨rfl, rfl, rfl, rfl, trivial⟩, fun _ h => h.sub [0]⟩ ?_
    rintro k ⟨hk, ht⟩
    refine VC.seq ?_
    refine VC.rs ?_
    refine VO.mv ?_
    refine VO.mv ?_
    refine VO.y rfl (.lenS rfl tsl47) ?_
    refine VO.y rfl (.lss rfl rfl) ?_
    refine VO.k5 0 1 5 10 14 ?_
    refine VC.cond rfl (fun hc2 => ?_) (fun hc2 => ?_)
    · -- FT
      refine VC.skip ?_
      refine outN ?_
      refine VC.seq ?_
      refine VC.block ?_
      refine VC.seq ?_
      refine VC.regD _ 35 [(0, true), (1, true), (2, true), (3, true), (4, true), (5, true), (6, true), (7, true), (8, true), (9, true), (10, true), (11, true), (12, true), (13, true), (14, true), (15, true), (16, true), (17, true), (18, true), (19, true), (20, true), (21, true), (22, true), (23, true), (24, true), (25, true), (26, true), (27, true), (28, true), (29, true), (30, true), (31, true), (32, true), (33, true), (34, true)] follows (by kernel_rfl) (fun _ h => h.sub [0]) ?_
      refine VD.y rfl rfl (.inl rfl) (.mv rfl) ?_
      refine VD.y rfl rfl (.inl rfl) (.mv rfl) ?_
      obtain ⟨x3, hx3⟩ : ∃ z_, (d0)[k]? = some z_ := ⟨_, List.getElem?_eq_getElem bd⟩
      obtain ⟨gg3, oo3, ec3, ea3, hce3, hre3⟩ := h0.elem hx3
      cases ea3
      obtain ⟨q3_A2, q3_c2, rfl, q3_0, q3_1, q3_2⟩ := open_Run (x0 := x3.1) (x1 := x3.2.1) (x2 := x3.2.2) hre3
      simp only [inK] at q3_0
      simp only [inK] at q3_1
      have q3_r2 := Rd.room q3_2
      refine VD.y rfl rfl (.inl rfl) (.ixI k rfl rfl tsl47 rfl bd) ?_
      refine VD.y rfl rfl (.inl rfl) (.fa rfl tst32 rfl) ?_
      refine VD.y rfl rfl (.inl rfl) (.ld1 0 rfl tk3 rfl (hce3.at1 (j := 0) rfl)) ?_
      refine VD.y rfl rfl (.inl rfl) (.mv rfl) ?_
      refine VD.y rfl rfl (.inl rfl) (.mv rfl) ?_
      obtain ⟨x4, hx4⟩ : ∃ z_, (d1)[k]? = some z_ := ⟨_, List.getElem?_eq_getElem bd⟩
      obtain ⟨gg4, oo4, ec4, ea4, hce4, hre4⟩ := h1.elem hx4
      cases ea4
      obtain ⟨q4_A2, q4_c2, rfl, q4_0, q4_1, q4_2⟩ := open_Run (x0 := x4.1) (x1 := x4.2.1) (x2 := x4.2.2) hre4
      simp only [inK] at q4_0
      simp only [inK] at q4_1
      have q4_r2 := Rd.room q4_2
      refine VD.y rfl rfl (.inl rfl) (.ixI k rfl rfl tsl47 rfl bd) ?_
      refine VD.y rfl rfl (.inl rfl) (.fa rfl tst32 rfl) ?_
      refine VD.y rfl rfl (.inl rfl) (.ld1 0 rfl tk3 rfl (hce4.at1 (j := 0) rfl)) ?_
      refine VD.y rfl rfl (.inl rfl) (.neq rfl rfl) ?_
      refine VD.y rfl rfl (.inl rfl) (.mv rfl) ?_
      refine VD.dec (s := 28) rfl (fun hc5 => ?_) (fun hc5 => ?_)
      · -- FTT
        refine VD.gn rfl rfl (.inl ⟨_, rfl, rfl⟩) ?_
        refine VD.gn rfl rfl (.inl ⟨_, rfl, rfl⟩) ?_
        refine VD.gn rfl rfl (.inl ⟨_, rfl, rfl⟩) ?_
        refine VD.gn rfl rfl (.inl ⟨_, rfl, rfl⟩) ?_
        refine VD.gn rfl rfl (.inl ⟨_, rfl, rfl⟩) ?_
        refine VD.gn rfl rfl (.inl ⟨_, rfl, rfl⟩) ?_
        refine VD.gn rfl rfl (.inl ⟨_, rfl, rfl⟩) ?_
        refine VD.gn rfl rfl (.inl ⟨_, rfl, rfl⟩) ?_
        refine VD.gn rfl rfl (.inl ⟨_, rfl, rfl⟩) ?_
        refine VD.gn rfl rfl (.inl ⟨_, rfl, rfl⟩) ?_
        refine VD.gn rfl rfl (.inl ⟨_, rfl, rfl⟩) ?_
        refine VD.y rfl rfl (.inl rfl) (.pT rfl rfl) ?_
        refine VD.y rfl rfl (.inl rfl) (.mv rfl) ?_
        refine VD.gn rfl rfl (.inl ⟨_, rfl, rfl⟩) ?_
        refine VD.gn rfl rfl (.inl ⟨_, rfl, rfl⟩) ?_
        refine VD.gn rfl rfl (.inl ⟨_, rfl, rfl⟩) ?_
        refine VD.gn rfl rfl (.inl ⟨_, rfl, rfl⟩) ?_
        refine VD.gn rfl rfl (.inl ⟨_, rfl, rfl⟩) ?_
        refine VD.gn rfl rfl (.inl ⟨_, rfl, rfl⟩) ?_
        refine VD.gn rfl rfl (.inl ⟨_, rfl, rfl⟩) ?_
        refine VD.gn rfl rfl (.inl ⟨_, rfl, rfl⟩) ?_
        refine VD.gn rfl rfl (.inl ⟨_, rfl, rfl⟩) ?_
        refine VD.gn rfl rfl (.inl ⟨_, rfl, rfl⟩) ?_
        refine VD.nil rfl ?_ rfl
        refine VO.gN ?_
        refine VO.gN ?_
        refine VO.y rfl (.pT rfl rfl) ?_
        refine VO.k6 0 1 5 10 14 54 ?_
        refine outN ?_
        refine VC.condT rfl ?_
        refine VC.rs ?_
        refine VO.as ?_
        refine VO.kp [0] [(0, wm W)] ?_
        refine VO.k7 0 1 4 5 10 14 54 ?_
        refine VC.ret ?_
        refine outBR ?_
        refine outR ?_
        refine outR ?_
        refine outBR ?_
        refine outR ?_
        refine ⟨_, _, res_run (rs := [.tmp 4]) rfl (.tmp rfl .nil), fun W_ hI => out_of (l := []) hI [] rfl rfl (mle_refl _) (fun hS_ => ?_)⟩
        dsimp only [packV]
        all_goals (first | rfl | (simp [get_ne ‹d0[k]? = some _› ‹d1[k]? = some _› (fun e_ => by subst e_; first | exact absurd rfl (by assumption) | (have h_ : ¬ (_ : List DOp) = _ := by assumption; exact h_ rfl))]))
      · -- FTF
        refine VD.y rfl rfl (.inr ⟨_, _, rfl, _, rfl, rfl⟩) (.mv rfl) ?_
        refine VD.y rfl rfl (.inr ⟨_, _, rfl, _, rfl, rfl⟩) (.mv rfl) ?_
        refine VD.y rfl rfl (.inr ⟨_, _, rfl, _, rfl, rfl⟩) (.ixI k rfl rfl tsl47 rfl bd) ?_
        refine VD.y rfl rfl (.inr ⟨_, _, rfl, _, rfl, rfl⟩) (.fa rfl tst32 rfl) ?_
        refine VD.y rfl rfl (.inr ⟨_, _, rfl, _, rfl, rfl⟩) (.ld1 0 rfl tk3 rfl (hce3.at1 (j := 1) rfl)) ?_
        refine VD.y rfl rfl (.inr ⟨_, _, rfl, _, rfl, rfl⟩) (.mv rfl) ?_
        refine VD.y rfl rfl (.inr ⟨_, _, rfl, _, rfl, rfl⟩) (.mv rfl) ?_
        refine VD.y rfl rfl (.inr ⟨_, _, rfl, _, rfl, rfl⟩) (.ixI k rfl rfl tsl47 rfl bd) ?_
        refine VD.y rfl rfl (.inr ⟨_, _, rfl, _, rfl, rfl⟩) (.fa rfl tst32 rfl) ?_
        refine VD.y rfl rfl (.inr ⟨_, _, rfl, _, rfl, rfl⟩) (.ld1 0 rfl tk3 rfl (hce4.at1 (j := 1) rfl)) ?_
        refine VD.y rfl rfl (.inr ⟨_, _, rfl, _, rfl, rfl⟩) (.neq rfl rfl) ?_
        refine VD.y rfl rfl (.inl rfl) (.pF rfl rfl) ?_
        refine VD.y rfl rfl (.inl rfl) (.mv rfl) ?_
        refine VD.dec (s := 41) rfl (fun hc8 => ?_) (fun hc8 => ?_)
        · -- FTFT
          refine VD.gn rfl rfl (.inl ⟨_, rfl, rfl⟩) ?_
          refine VD.gn rfl rfl (.inl ⟨_, rfl, rfl⟩) ?_
          refine VD.gn rfl rfl (.inl ⟨_, rfl, rfl⟩) ?_
          refine VD.gn rfl rfl (.inl ⟨_, rfl, rfl⟩) ?_
          refine VD.gn rfl rfl (.inl ⟨_, rfl, rfl⟩) ?_
          refine VD.gn rfl rfl (.inl ⟨_, rfl, rfl⟩) ?_
          refine VD.gn rfl rfl (.inl ⟨_, rfl, rfl⟩) ?_
          refine VD.gn rfl rfl (.inl ⟨_, rfl, rfl⟩) ?_
          refine VD.gn rfl rfl (.inl ⟨_, rfl, rfl⟩) ?_
          refine VD.gn rfl rfl (.inl ⟨_, rfl, rfl⟩) ?_
          refine VD.nil rfl ?_ rfl
          refine VO.gN ?_
          refine VO.gN ?_
          refine VO.y rfl (.pT rfl rfl) ?_
          refine VO.k6 0 1 5 10 14 54 ?_
          refine outN ?_
          refine VC.condT rfl ?_
          refine VC.rs ?_
          refine VO.as ?_
          refine VO.kp [0] [(0, wm W)] ?_
          refine VO.k7 0 1 4 5 10 14 54 ?_
          refine VC.ret ?_
          refine outBR ?_
          refine outR ?_
          refine outR ?_
          refine outBR ?_
          refine outR ?_
          refine ⟨_, _, res_run (rs := [.tmp 4]) rfl (.tmp rfl .nil), fun W_ hI => out_of (l := []) hI [] rfl rfl (mle_refl _) (fun hS_ => ?_)⟩
          dsimp only [packV]
          all_goals (first | rfl | (simp [get_ne ‹d0[k]? = some _› ‹d1[k]? = some _› (fun e_ => by subst e_; first | exact absurd rfl (by assumption) | (have h_ : ¬ (_ : List DOp) = _ := by assumption; exact h_ rfl))]))
        · -- FTFF
          refine VD.y rfl rfl (.inr ⟨_, _, rfl, _, rfl, rfl⟩) (.mv rfl) ?_
          refine VD.y rfl rfl (.inr ⟨_, _, rfl, _, rfl, rfl⟩) (.mv rfl) ?_
          refine VD.y rfl rfl (.inr ⟨_, _, rfl, _, rfl, rfl⟩) (.ixI k rfl rfl tsl47 rfl bd) ?_
          refine VD.y rfl rfl (.inr ⟨_, _, rfl, _, rfl, rfl⟩) (.fa rfl tst32 rfl) ?_
          refine VD.y rfl rfl (.inr ⟨_, _, rfl, _, rfl, rfl⟩) (.ld1 0 rfl tk30 rfl (hce3.at1 (j := 2) rfl)) ?_
          refine VD.y rfl rfl (.inr ⟨_, _, rfl, _, rfl, rfl⟩) (.mv rfl) ?_
          refine VD.y rfl rfl (.inr ⟨_, _, rfl, _, rfl, rfl⟩) (.mv rfl) ?_
          refine VD.y rfl rfl (.inr ⟨_, _, rfl, _, rfl, rfl⟩) (.ixI k rfl rfl tsl47 rfl bd) ?_
          refine VD.y rfl rfl (.inr ⟨_, _, rfl, _, rfl, rfl⟩) (.fa rfl tst32 rfl) ?_
          refine VD.y rfl rfl (.inr ⟨_, _, rfl, _, rfl, rfl⟩) (.ld1 0 rfl tk30 rfl (hce4.at1 (j := 2) rfl)) ?_
          refine VD.nil rfl ?_ rfl
          refine VO.gcallN 111 rfl ⟨_, rfl, rfl⟩ fnOk62 rfl (fun W hW => SameOps_ok W (Rd.mono q3_2 (hW.at (i := 0) rfl)) (Rd.mono q4_2 (hW.at (i := 0) rfl))) (fun v11 m11 hv11 => ?_)
          subst hv11
          refine VO.gy rfl ⟨_, rfl, rfl⟩ (.notD rfl) ?_
          refine VO.y rfl (.pF rfl rfl) ?_
          refine VO.k6 0 1 5 10 14 54 ?_
          refine outN ?_
          refine VC.cond rfl (fun hc12 => ?_) (fun hc12 => ?_)
          · -- FTFFT
            refine VC.rs ?_
            refine VO.as ?_
            refine VO.kp [0] [(0, wm W)] ?_
            refine VO.k7 0 1 4 5 10 14 54 ?_
            refine VC.ret ?_
            refine outBR ?_
            refine outR ?_
            refine outR ?_
            refine outBR ?_
            refine outR ?_
            refine ⟨_, _, res_run (rs := [.tmp 4]) rfl (.tmp rfl .nil), fun W_ hI => out_of (l := []) hI [] rfl rfl (mle_refl _) (fun hS_ => ?_)⟩
            dsimp only [packV]
            all_goals (first | rfl | (simp [get_ne ‹d0[k]? = some _› ‹d1[k]? = some _› (fun e_ => by subst e_; first | exact absurd rfl (by assumption) | (have h_ : ¬ (_ : List DOp) = _ := by assumption; exact h_ rfl))]))
          · -- FTFFF
            refine VC.skip ?_
            refine outBN ?_
            refine outN ?_
            refine VC.reg ?_
            refine VO.mv ?_
            refine VO.y rfl (.add (c := ((k + 1 : Nat) : Int)) rfl rfl (by omega) ⟨bd, bd⟩) ?_
            refine VO.as ?_
            refine VO.kp [0] [(0, wm W)] ?_
            refine VO.k6 0 1 5 10 14 54 ?_
            exact outN ⟨k + 1, ⟨by omega, by exact take_next ht ‹d0[k]? = some _› ‹d1[k]? = some _› (run_ext (by omega) (by omega) (by first | assumption | exact Decidable.not_not.1 (by assumption)))⟩, bd, ⟨⟨rfl, rfl, rfl, rfl, trivial⟩, fun _ h => Inv.sub h [0]⟩⟩
    · -- FF
      refine VC.exit ?_
      refine outE ?_
      refine outE ?_
      refine outBB ?_
      refine outN ?_
      refine VC.rs ?_
      refine VO.as ?_
      refine VO.k6 0 1 4 5 10 14 ?_
      refine VC.ret ?_
      refine ⟨_, _, res_run (rs := [.tmp 4]) rfl (.tmp rfl .nil), fun W_ hI => out_of (l := []) hI [] rfl rfl (mle_refl _) (fun hS_ => ?_)⟩
      dsimp only [packV]
      all_goals (first | rfl | (simp [take_all ht (by omega) (by omega)]))
def exR : DRun := (1, 2, [(false, [97], []), (true, [98], [49])])
def exR2 : DRun := (3, 3, [(true, [97], [57])])
def exBy : Bytes := [1, 2, 2, 0, 1, 97, 1, 1, 98, 1, 49]
theorem venc_byte {x : Nat} (h : x < 128) : venc x = [UInt8.ofNat x] := by rw [venc_last h, ofNat_mod]
theorem exR_body : runBody exR = exBy := by
  simp only [runBody, exR, opEnc, List.map_cons, List.map_nil, List.flatten_cons, List.flatten_nil, List.length_cons, List.length_nil, Int.toNat_one, show Int.toNat 2 = 2 from rfl]
  rw [venc_byte (x := 1) (by decide), venc_byte (x := 2) (by decide)]; decide
theorem exR2_body : runBody exR2 = [3, 3, 1, 1, 1, 97, 1, 57] := by
  simp only [runBody, exR2, opEnc, List.map_cons, List.map_nil, List.flatten_cons, List.flatten_nil, List.length_cons, List.length_nil, show Int.toNat 3 = 3 from rfl]
  rw [venc_byte (x := 3) (by decide), venc_byte (x := 0 + 1) (by decide)]; decide
theorem exR_frame : rFrame exR = 11 :: exBy := by
  unfold rFrame fEnc; rw [exR_body, venc_byte (by decide)]; rfl
theorem exR2_frame : rFrame exR2 = [8, 3, 3, 1, 1, 1, 97, 1, 57] := by
  unfold rFrame fEnc; rw [exR2_body, venc_byte (by decide)]; rfl
def ruD1 : DDisk := (dSync (dWrite newD 2 (11 :: exBy)).1).1
def ruD2 : DDisk := (dSync (dWrite ruD1 2 [8, 3, 3, 1, 1, 1, 97, 1, 57]).1).1
theorem ruE : runEncode exR = (exBy, 0) := by unfold runEncode; rw [if_pos (by decide), exR_body]
theorem ru0 : uOpen newD = (newD, 0) := by decide +kernel
theorem ru0l : (runF (dRead newD 2).1).1 = [] := by decide +kernel
theorem ru1 : uFlush newD false [] exR = ((ruD1, false, [exR]), 0) := by
  unfold uFlush; rw [if_neg (by decide), if_neg (by decide), if_neg (by decide), exR_frame, if_neg (by decide +kernel), if_neg (by decide +kernel)]; rfl
theorem ru2 : uFlush ruD1 false [exR] (4, 4, []) = ((ruD1, false, [exR]), 15) := by
  unfold uFlush; rw [if_neg (by decide +kernel), if_neg (by decide), if_pos (by decide)]
theorem ru3 : uFlush ruD1 false [exR] (3, 3, [(true, [97], [57])]) = ((ruD2, false, [exR, exR2]), 0) := by
  show uFlush ruD1 false [exR] exR2 = _
  unfold uFlush; rw [if_neg (by decide +kernel), if_neg (by decide), if_neg (by decide), exR2_frame, if_neg (by decide +kernel), if_neg (by decide +kernel)]; rfl
theorem ruG1 : getR [exR] [98] = ([49], true, true) := by decide
theorem ruG2 : getR [exR, exR2] [97] = ([57], true, true) := by decide
theorem ruG3 : getR [exR, exR2] [98] = ([49], true, true) := by decide
theorem ruG4 : getR [exR, exR2] [99] = ([], false, false) := by decide
theorem ruN1 : endR [exR] = 2 := by decide
theorem ruC1 : runCheck (2, 1, []) = 2 := by decide
theorem ruC2 : runCheck (1, 1, [(true, [98], []), (true, [97], [])]) = 2 := by decide
theorem ruC3 (x : DOp) : runCheck (1, 1, List.replicate 1025 x) = 3 := if_pos (by rw [List.length_replicate]; decide)
theorem fnOk10 : fnOk Try.prog 10 = true := by kernel_rfl
theorem fnOk11 : fnOk Try.prog 11 = true := by kernel_rfl
theorem fnOk12 : fnOk Try.prog 12 = true := by kernel_rfl
theorem fnOk13 : fnOk Try.prog 13 = true := by kernel_rfl
theorem fnOk9 : fnOk Try.prog 9 = true := by kernel_rfl
theorem example13_ok (W : World) : CallR Try.prog 12 [] W (mnil) (fun v m' => ∃ (s0 : List Value), v = .agg s0.toArray ∧ Ow TRun m' s0 (exR)) := by
  refine CallR.ofA (n := 5) Try.func12 rfl rfl rfl ?_
  refine VC.rs ?_
  refine VO.alloc 102 rfl tz32 (fun g1 => ?_)
  refine VO.k1 0 ?_
  refine VC.rs ?_
  refine VO.y rfl (.bst (cs := [Value.bool false, str ([97]), str ([])]) rfl tst35 tz35 rfl) ?_
  refine VO.y rfl (.bst (cs := [Value.bool true, str ([98]), str ([49])]) rfl tst35 tz35 rfl) ?_
  refine VO.bsl (cs := [Value.bool false, str ([97]), str ([]), Value.bool true, str ([98]), str ([49])]) 104 rfl rfl tsl30 tz35 rfl rfl (fun g3 => ?_)
  refine VO.y rfl (.bst (cs := [Value.int .i64 (1), Value.int .i64 (2), Value.slice (some ⟨g3, 0, none⟩) (2) (2)]) rfl tst32 tz32 rfl) ?_
  refine VO.store (k := 3) (c' := [Value.int .i64 (1), Value.int .i64 (2), Value.slice (some ⟨g3, 0, none⟩) (2) (2)]) 102 rfl rfl (.inl tk32) rfl rfl rfl rfl rfl ?_
  refine VO.k1 0 ?_
  refine VC.ret ?_
  have ho5 : OwnL TOp (mone g3 (.cells [Value.bool false, str ([97]), str ([]), Value.bool true, str ([98]), str ([49])].toArray 35 (0, 0))) mnil (Value.slice (some ⟨g3, 0, none⟩) (2) (2)) [(false, [97], []), (true, [98], [49])] := OwnL.lit 2 (All2c.cons (c1 := [Value.bool false, str ([97]), str ([])]) (mk_Op (m := _) false ([97]) [] bdm bdm) (All2c.cons (c1 := [Value.bool true, str ([98]), str ([49])]) (mk_Op (m := _) true ([98]) ([49]) bdm bdm) All2c.nil)) rfl rfl
  refine ⟨_, _, res_run (rs := [.cell 0 32]) rfl (.agg 102 rfl tk32 rfl ⟨_, _, _, mone_self _ _, Nat.le_of_ble_eq_true rfl, rfl⟩ .nil), fun W_ hI => out_of (l := [mone g3 (.cells [Value.bool false, str ([97]), str ([]), Value.bool true, str ([98]), str ([49])].toArray 35 (0, 0))]) hI [104] rfl rfl (mle_refl _) (fun hS_ => ?_)⟩
  dsimp only [packV]
  have he0 : (exR : Ty.Den TRun) = (1, 2, [(false, [97], []), (true, [98], [49])]) := by first | rfl | (simp [*]; done)
  refine ⟨[Value.int .i64 (1), Value.int .i64 (2), Value.slice (some ⟨g3, 0, none⟩) (2) (2)], ?_, ?_⟩
  rotate_left
  · rw [he0]; exact (mkO_Run 1 2 ([(false, [97], []), (true, [98], [49])]) hS_ bdk bdk (OwnL.ow ho5 rfl))
  all_goals (first | rfl | (simp [*]; done))
set_option maxHeartbeats 4000000 in
theorem lives13_ok (W : World) : CallR Try.prog 8 [] W (mnil) (fun v m' => v = .bool true) := by
  refine CallR.ofA (n := 59) Try.func8 rfl rfl rfl ?_
  refine VC.rs ?_
  refine VO.as ?_
  refine VO.k1 0 ?_
  refine VC.rs ?_
  refine VO.callN 101 rfl fnOk12 rfl (fun W hW => example13_ok W ) (fun v1 m1 hv1 => ?_)
  obtain ⟨s1_0, rfl, f1_0⟩ := hv1
  obtain ⟨q1_0_A2, q1_0_c2, q1_0_n2, rfl, q1_0_S, q1_0_0, q1_0_1, q1_0_2⟩ := openO_Run (x0 := exR.1) (x1 := exR.2.1) (x2 := exR.2.2) f1_0
  simp only [inK] at q1_0_0
  simp only [inK] at q1_0_1
  have q1_0_r2 := q1_0_2.rm
  refine VO.inv _ (fun _ h => h.parts (i := 101) rfl q1_0_S [102]) ?_
  refine VO.callN 103 rfl fnOk17 rfl (fun W hW => runEncode_ok W (show Rd TRun _ _ exR from (mk_Run (m := wm W) exR.1 exR.2.1 exR.2.2 bdk bdk (OwnL.rd (Ow.ownl q1_0_2 rfl mnil) (hW.at (i := 102) rfl) (mle_nil _))))) (fun v3 m3 hv3 => ?_)
  obtain ⟨s3_0, rfl, f3_0⟩ := hv3
  have hfa4 := runEncode_len exR
  obtain ⟨A3_0, c3_0, eq3_0, l3_0, k3_0⟩ := f3_0.slice
  subst eq3_0
  simp only [maxLen] at k3_0
  refine VO.mv ?_
  refine VO.y rfl (.ext rfl rfl) ?_
  refine VO.y rfl (.ext rfl rfl) ?_
  refine VO.as ?_
  refine VO.as ?_
  refine VO.k3 0 1 2 ?_
  refine VC.rs ?_
  refine VO.callN 105 rfl fnOk10 rfl (fun W hW => dNew_ok W ) (fun v5 m5 hv5 => ?_)
  obtain ⟨s5_0, rfl, f5_0⟩ := hv5
  have hfa6 := okD_new
  have hfa7 := (show wD newD = 0 from rfl)
  by_cases hsp8 : (uOpen newD).2 = 0
  · -- T
    refine VO.call 105 rfl fnOk9 rfl rfl (fun W hW => uOpenY_ok W (hW.at (i := 105) rfl) f5_0 (by assumption) (by first | (simp only [ru0, ru0l, ru1, ru2, ru3, ruE, ruG1, ruG2, ruG3, ruG4, ruN1, ruC1, ruC2, ruC3]; decide +kernel) | decide +kernel) (by assumption)) (fun v9 m9 hv9 => ?_)
    obtain ⟨s9_0, rfl, f9_0⟩ := hv9
    have hfa10 := (uopen_ok (show okD newD by assumption))
    have hfa11 := (uopen_w (show okD newD by assumption))
    have hfa12 := (runF_ok (dRead newD 2).1).1
    refine VO.mv ?_
    refine VO.y rfl (.ext rfl rfl) ?_
    refine VO.y rfl (.ext rfl rfl) ?_
    refine VO.as ?_
    refine VO.as ?_
    refine VO.kp [105, 103, 0] [(105, m9), (103, m3), (0, wm W)] ?_
    refine VO.k5 0 1 2 3 4 ?_
    refine VC.seq ?_
    refine VC.rs ?_
    refine VO.mv ?_
    refine VO.y rfl (.neq rfl rfl) ?_
    refine VO.mv ?_
    refine VO.dec (t := 20) rfl (fun hc13 => ?_) (fun hc13 => ?_)
    · -- TT
      first | exact absurd rfl hc13 | exact absurd (by first | rfl | decide | (simp only [ru0, ru0l, ru1, ru2, ru3, ruE, ruG1, ruG2, ruG3, ruG4, ruN1, ruC1, ruC2, ruC3]; first | done | rfl | decide | omega)) hc13 | exact absurd hc13 (by first | decide | (simp only [ru0, ru0l, ru1, ru2, ru3, ruE, ruG1, ruG2, ruG3, ruG4, ruN1, ruC1, ruC2, ruC3]; first | done | rfl | decide | omega)) | (simp only [ru0, ru0l, ru1, ru2, ru3, ruE, ruG1, ruG2, ruG3, ruG4, ruN1, ruC1, ruC2, ruC3] at hc13; first | done | exact absurd hc13 (by decide) | exact absurd rfl hc13)
    · -- TF
      refine VO.gy rfl ⟨_, rfl, rfl⟩ (.mv rfl) ?_
      refine VO.gy rfl ⟨_, rfl, rfl⟩ (.neq rfl rfl) ?_
      refine VO.y rfl (.pF rfl rfl) ?_
      refine VO.mv ?_
      refine VO.dec (t := 24) rfl (fun hc14 => ?_) (fun hc14 => ?_)
      · -- TFT
        first | exact absurd rfl hc14 | exact absurd (by first | rfl | decide | (simp only [ru0, ru0l, ru1, ru2, ru3, ruE, ruG1, ruG2, ruG3, ruG4, ruN1, ruC1, ruC2, ruC3]; first | done | rfl | decide | omega)) hc14 | exact absurd hc14 (by first | decide | (simp only [ru0, ru0l, ru1, ru2, ru3, ruE, ruG1, ruG2, ruG3, ruG4, ruN1, ruC1, ruC2, ruC3]; first | done | rfl | decide | omega)) | (simp only [ru0, ru0l, ru1, ru2, ru3, ruE, ruG1, ruG2, ruG3, ruG4, ruN1, ruC1, ruC2, ruC3] at hc14; first | done | exact absurd hc14 (by decide) | exact absurd rfl hc14)
      · -- TFF
        refine VO.gy rfl ⟨_, rfl, rfl⟩ (.mv rfl) ?_
        refine VO.gy rfl ⟨_, rfl, rfl⟩ (.pnil rfl rfl Try.underlying23 rfl) ?_
        refine VO.y rfl (.pF rfl rfl) ?_
        refine VO.mv ?_
        refine VO.gy rfl ⟨_, rfl, rfl⟩ (.mv rfl) ?_
        refine VO.gbsl (cs := [Value.int .u8 (1), Value.int .u8 (2), Value.int .u8 (2), Value.int .u8 (0), Value.int .u8 (1), Value.int .u8 (97), Value.int .u8 (1), Value.int .u8 (1), Value.int .u8 (98), Value.int .u8 (1), Value.int .u8 (49)]) 116 rfl ⟨_, rfl, rfl⟩ rfl tsl38 tz5 rfl rfl (fun g15 => ?_)
        have ho18 : OwnL .byte (mone g15 (.cells [Value.int .u8 (1), Value.int .u8 (2), Value.int .u8 (2), Value.int .u8 (0), Value.int .u8 (1), Value.int .u8 (97), Value.int .u8 (1), Value.int .u8 (1), Value.int .u8 (98), Value.int .u8 (1), Value.int .u8 (49)].toArray 5 (0, 0))) mnil (Value.slice (some ⟨g15, 0, none⟩) (11) (11)) [UInt8.ofNat 1, UInt8.ofNat 2, UInt8.ofNat 2, UInt8.ofNat 0, UInt8.ofNat 1, UInt8.ofNat 97, UInt8.ofNat 1, UInt8.ofNat 1, UInt8.ofNat 98, UInt8.ofNat 1, UInt8.ofNat 49] := OwnL.lit 11 (All2c.cons (c1 := [Value.int .u8 (1)]) (rd_byteN bd) (All2c.cons (c1 := [Value.int .u8 (2)]) (rd_byteN bd) (All2c.cons (c1 := [Value.int .u8 (2)]) (rd_byteN bd) (All2c.cons (c1 := [Value.int .u8 (0)]) (rd_byteN bd) (All2c.cons (c1 := [Value.int .u8 (1)]) (rd_byteN bd) (All2c.cons (c1 := [Value.int .u8 (97)]) (rd_byteN bd) (All2c.cons (c1 := [Value.int .u8 (1)]) (rd_byteN bd) (All2c.cons (c1 := [Value.int .u8 (1)]) (rd_byteN bd) (All2c.cons (c1 := [Value.int .u8 (98)]) (rd_byteN bd) (All2c.cons (c1 := [Value.int .u8 (1)]) (rd_byteN bd) (All2c.cons (c1 := [Value.int .u8 (49)]) (rd_byteN bd) All2c.nil))))))))))) rfl rfl
        refine VO.gcallN 117 rfl ⟨_, rfl, rfl⟩ fnOk22 rfl (fun W hW => SameBytes_ok W (OwnL.rd (Ow.ownl f3_0 rfl mnil) (hW.at (i := 103) rfl) (mle_nil _)) (OwnL.rd ho18 (hW.at (i := 116) rfl) (mle_nil _))) (fun v17 m17 hv17 => ?_)
        subst hv17
        refine VO.gy rfl ⟨_, rfl, rfl⟩ (.notD rfl) ?_
        refine VO.y rfl (.pF rfl rfl) ?_
        refine VO.mv ?_
        refine VO.dec (t := 34) rfl (fun hc19 => ?_) (fun hc19 => ?_)
        · -- TFFT
          first | exact absurd rfl hc19 | exact absurd (by first | rfl | decide | (simp only [ru0, ru0l, ru1, ru2, ru3, ruE, ruG1, ruG2, ruG3, ruG4, ruN1, ruC1, ruC2, ruC3]; first | done | rfl | decide | omega)) hc19 | exact absurd hc19 (by first | decide | (simp only [ru0, ru0l, ru1, ru2, ru3, ruE, ruG1, ruG2, ruG3, ruG4, ruN1, ruC1, ruC2, ruC3]; first | done | rfl | decide | omega)) | (simp only [ru0, ru0l, ru1, ru2, ru3, ruE, ruG1, ruG2, ruG3, ruG4, ruN1, ruC1, ruC2, ruC3] at hc19; first | done | exact absurd hc19 (by decide) | exact absurd rfl hc19)
        · -- TFFF
          refine VO.gy rfl ⟨_, rfl, rfl⟩ (.mv rfl) ?_
          refine VO.gcallN 120 rfl ⟨_, rfl, rfl⟩ fnOk12 rfl (fun W hW => example13_ok W ) (fun v20 m20 hv20 => ?_)
          obtain ⟨s20_0, rfl, f20_0⟩ := hv20
          obtain ⟨q20_0_A2, q20_0_c2, q20_0_n2, rfl, q20_0_S, q20_0_0, q20_0_1, q20_0_2⟩ := openO_Run (x0 := exR.1) (x1 := exR.2.1) (x2 := exR.2.2) f20_0
          simp only [inK] at q20_0_0
          simp only [inK] at q20_0_1
          have q20_0_r2 := q20_0_2.rm
          refine VO.inv _ (fun _ h => h.parts (i := 120) rfl q20_0_S [121]) ?_
          refine VO.gcall 105 rfl ⟨_, rfl, rfl⟩ fnOk11 rfl rfl (fun W hW => uFlush_ok W (hW.at (i := 105) rfl) f9_0 (show Rd TRun _ _ exR from (mk_Run (m := mout (wm W) (m9)) exR.1 exR.2.1 exR.2.2 bdk bdk (OwnL.rd (Ow.ownl q20_0_2 rfl mnil) (hW.out (i := 105) (j := 121) rfl rfl) (mle_nil _)))) (by assumption) (by first | (simp only [ru0, ru0l, ru1, ru2, ru3, ruE, ruG1, ruG2, ruG3, ruG4, ruN1, ruC1, ruC2, ruC3]; decide +kernel) | decide +kernel) (by assumption)) (fun v22 m22 hv22 => ?_)
          try dsimp only at hv22
          obtain ⟨rfl, w22_0⟩ := hv22
          have hfa23 := (flush_ok (br := false) (l := ((runF (dRead newD 2).1).1)) (x := exR) (show okD ((uOpen newD).1) by assumption))
          have hfa24 := (flush_w (br := false) (l := ((runF (dRead newD 2).1).1)) (x := exR) (show okD ((uOpen newD).1) by assumption))
          have hfa25 := (flush_okU (d := ((uOpen newD).1)) (br := false) (x := exR) (show okU ((runF (dRead newD 2).1).1) by assumption))
          refine VO.gy rfl ⟨_, rfl, rfl⟩ (.neq rfl rfl) ?_
          refine VO.y rfl (.pF rfl rfl) ?_
          refine VO.k6 0 1 2 3 4 39 ?_
          refine VC.cond rfl (fun hc26 => ?_) (fun hc26 => ?_)
          · -- TFFFT
            first | exact absurd rfl hc26 | exact absurd (by first | rfl | decide | (simp only [ru0, ru0l, ru1, ru2, ru3, ruE, ruG1, ruG2, ruG3, ruG4, ruN1, ruC1, ruC2, ruC3]; first | done | rfl | decide | omega)) hc26 | exact absurd hc26 (by first | decide | (simp only [ru0, ru0l, ru1, ru2, ru3, ruE, ruG1, ruG2, ruG3, ruG4, ruN1, ruC1, ruC2, ruC3]; first | done | rfl | decide | omega)) | (simp only [ru0, ru0l, ru1, ru2, ru3, ruE, ruG1, ruG2, ruG3, ruG4, ruN1, ruC1, ruC2, ruC3] at hc26; first | done | exact absurd hc26 (by decide) | exact absurd rfl hc26)
          · -- TFFFF
            refine VC.skip ?_
            refine outN ?_
            refine VC.rs ?_
            refine VO.mv ?_
            obtain ⟨q28_E, q28_A2, q28_c2, q28_n0, q28_n2, _, q28_S, q28_0, q28_2⟩ := openP_runRuns (x0 := (s5_0, (uFlush ((uOpen newD).1) false ((runF (dRead newD 2).1).1) exR).1.1)) (x1 := (uFlush ((uOpen newD).1) false ((runF (dRead newD 2).1).1) exR).1.2.1) (x2 := (uFlush ((uOpen newD).1) false ((runF (dRead newD 2).1).1) exR).1.2.2) w22_0
            dsimp only at q28_0
            have q28_r2 := q28_2.rm
            refine VO.inv _ (fun _ h => h.parts (i := 105) rfl q28_S [131, 129, 130]) ?_
            refine VO.call 131 rfl fnOk13 rfl rfl (fun W hW => uGet_ok W (d0 := ((some s5_0), (uFlush ((uOpen newD).1) false ((runF (dRead newD 2).1).1) exR).1.2)) (hW.at (i := 131) rfl) (Ow.rd q28_2 (hW.out (i := 131) (j := 130) rfl rfl)) ([98]) bdm (by assumption) (by first | assumption | simp)) (fun v27 m27 hv27 => ?_)
            try dsimp only at hv27
            obtain ⟨rfl, rfl⟩ := hv27
            refine VO.mv ?_
            refine VO.y rfl (.ext rfl rfl) ?_
            refine VO.y rfl (.ext rfl rfl) ?_
            refine VO.y rfl (.ext rfl rfl) ?_
            refine VO.as ?_
            refine VO.as ?_
            refine VO.as ?_
            refine VO.clsP 132 [131, 129, 130] rfl (fun hg32 => (mkP_runRuns (s5_0, (uFlush ((uOpen newD).1) false ((runF (dRead newD 2).1).1) exR).1.1) ((uFlush ((uOpen newD).1) false ((runF (dRead newD 2).1).1) exR).1.2.1) ((uFlush ((uOpen newD).1) false ((runF (dRead newD 2).1).1) exR).1.2.2) hg32 q28_0 q28_2)) (fun mc32 ho32 => ?_)
            refine VO.k9 0 1 2 3 4 5 6 7 39 ?_
            refine VC.rs ?_
            refine VO.mv ?_
            refine VO.call 132 rfl fnOk28 rfl rfl (fun W hW => uEnd_ok W (hW.at (i := 132) rfl) ho32 (by assumption)) (fun v33 m33 hv33 => ?_)
            try dsimp only at hv33
            obtain ⟨rfl, w33_0⟩ := hv33
            refine VO.y rfl (.eql rfl rfl) ?_
            refine VO.mv ?_
            refine VO.dec (t := 49) rfl (fun hc34 => ?_) (fun hc34 => ?_)
            · -- TFFFFT
              refine VO.gy rfl ⟨_, rfl, rfl⟩ (.mv rfl) ?_
              refine VO.gy rfl ⟨_, rfl, rfl⟩ (.seql rfl rfl) ?_
              refine VO.y rfl (.pT rfl rfl) ?_
              refine VO.mv ?_
              refine VO.dec (t := 53) rfl (fun hc35 => ?_) (fun hc35 => ?_)
              · -- TFFFFTT
                refine VO.gy rfl ⟨_, rfl, rfl⟩ (.mv rfl) ?_
                refine VO.y rfl (.pT rfl rfl) ?_
                refine VO.mv ?_
                refine VO.decB (t := 56) rfl (fun hc36 => ?_) (fun hc36 => ?_)
                · -- TFFFFTTT
                  refine VO.gy rfl ⟨_, rfl, rfl⟩ (.mv rfl) ?_
                  refine VO.y rfl (.pT rfl rfl) ?_
                  refine VO.as ?_
                  refine VO.kp [132, 103, 0] [(132, m33), (103, m3), (0, wm W)] ?_
                  refine VO.k9 0 1 2 3 4 5 6 7 39 ?_
                  refine VC.ret ?_
                  refine ⟨_, _, res_run (rs := [.tmp 0]) rfl (.tmp rfl .nil), fun W_ hI => out_of (l := []) hI [] rfl rfl (mle_refl _) (fun hS_ => ?_)⟩
                  dsimp only [packV]
                  all_goals (first | rfl | (first | exact congrArg Value.bool (decide_eq_true (by (simp only [ru0, ru0l, ru1, ru2, ru3, ruE, ruG1, ruG2, ruG3, ruG4, ruN1, ruC1, ruC2, ruC3]; first | done | rfl | decide | omega))) | (show Value.bool _ = Value.bool true; simp only [ru0, ru0l, ru1, ru2, ru3, ruE, ruG1, ruG2, ruG3, ruG4, ruN1, ruC1, ruC2, ruC3]; done) | rfl))
                · -- TFFFFTTF
                  first | exact absurd rfl hc36 | exact absurd (by first | rfl | decide | (simp only [ru0, ru0l, ru1, ru2, ru3, ruE, ruG1, ruG2, ruG3, ruG4, ruN1, ruC1, ruC2, ruC3]; first | done | rfl | decide | omega)) hc36 | exact absurd hc36 (by first | decide | (simp only [ru0, ru0l, ru1, ru2, ru3, ruE, ruG1, ruG2, ruG3, ruG4, ruN1, ruC1, ruC2, ruC3]; first | done | rfl | decide | omega)) | (simp only [ru0, ru0l, ru1, ru2, ru3, ruE, ruG1, ruG2, ruG3, ruG4, ruN1, ruC1, ruC2, ruC3] at hc36; first | done | exact absurd hc36 (by decide) | exact absurd rfl hc36)
              · -- TFFFFTF
                first | exact absurd rfl hc35 | exact absurd (by first | rfl | decide | (simp only [ru0, ru0l, ru1, ru2, ru3, ruE, ruG1, ruG2, ruG3, ruG4, ruN1, ruC1, ruC2, ruC3]; first | done | rfl | decide | omega)) hc35 | exact absurd hc35 (by first | decide | (simp only [ru0, ru0l, ru1, ru2, ru3, ruE, ruG1, ruG2, ruG3, ruG4, ruN1, ruC1, ruC2, ruC3]; first | done | rfl | decide | omega)) | (simp only [ru0, ru0l, ru1, ru2, ru3, ruE, ruG1, ruG2, ruG3, ruG4, ruN1, ruC1, ruC2, ruC3] at hc35; first | done | exact absurd hc35 (by decide) | exact absurd rfl hc35)
            · -- TFFFFF
              first | exact absurd rfl hc34 | exact absurd (by first | rfl | decide | (simp only [ru0, ru0l, ru1, ru2, ru3, ruE, ruG1, ruG2, ruG3, ruG4, ruN1, ruC1, ruC2, ruC3]; first | done | rfl | decide | omega)) hc34 | exact absurd hc34 (by first | decide | (simp only [ru0, ru0l, ru1, ru2, ru3, ruE, ruG1, ruG2, ruG3, ruG4, ruN1, ruC1, ruC2, ruC3]; first | done | rfl | decide | omega)) | (simp only [ru0, ru0l, ru1, ru2, ru3, ruE, ruG1, ruG2, ruG3, ruG4, ruN1, ruC1, ruC2, ruC3] at hc34; first | done | exact absurd hc34 (by decide) | exact absurd rfl hc34)
  · -- F
    first | exact absurd rfl hsp8 | exact absurd (by first | rfl | decide | (simp only [ru0, ru0l, ru1, ru2, ru3, ruE, ruG1, ruG2, ruG3, ruG4, ruN1, ruC1, ruC2, ruC3]; first | done | rfl | decide | omega)) hsp8 | exact absurd hsp8 (by first | decide | (simp only [ru0, ru0l, ru1, ru2, ru3, ruE, ruG1, ruG2, ruG3, ruG4, ruN1, ruC1, ruC2, ruC3]; first | done | rfl | decide | omega)) | (simp only [ru0, ru0l, ru1, ru2, ru3, ruE, ruG1, ruG2, ruG3, ruG4, ruN1, ruC1, ruC2, ruC3] at hsp8; first | done | exact absurd hsp8 (by decide) | exact absurd rfl hsp8)
theorem fnOk18 : fnOk Try.prog 18 = true := by kernel_rfl
theorem fnOk20 : fnOk Try.prog 20 = true := by kernel_rfl
theorem fnOk23 : fnOk Try.prog 23 = true := by kernel_rfl
theorem fnOk24 : fnOk Try.prog 24 = true := by kernel_rfl
theorem fnOk25 : fnOk Try.prog 25 = true := by kernel_rfl
theorem fnOk26 : fnOk Try.prog 26 = true := by kernel_rfl
theorem fnOk27 : fnOk Try.prog 27 = true := by kernel_rfl
theorem fnOk8 : fnOk Try.prog 8 = true := by kernel_rfl
set_option maxHeartbeats 4000000 in
theorem runCalls_ok (W : World) {v0 : List Value} {d0 : DRun} (h0 : Rd TRun (wm W) v0 d0) {v1 : Value} {d1 : List UInt8} (h1 : Rd (.sl .byte) (wm W) [v1] d1) (e0 : d0.2.2.length ≤ 3518437208800) : CallR Try.prog 4 [.agg v0.toArray, v1] W (mnil) (fun v m' => v = .bool true) := by
  obtain ⟨p0_A2, p0_c2, rfl, p0_0, p0_1, p0_2⟩ := open_Run (x0 := d0.1) (x1 := d0.2.1) (x2 := d0.2.2) h0
  simp only [inK] at p0_0
  simp only [inK] at p0_1
  have p0_r2 := Rd.room p0_2
  obtain ⟨A1, c1, rfl, l1, k1⟩ := h1.slice
  simp only [maxLen] at k1
  refine CallR.ofA (n := 140) Try.func4 rfl rfl rfl ?_
  refine VC.rs ?_
  refine VO.box (cs := [Value.int .i64 (d0.1), Value.int .i64 (d0.2.1), Value.slice p0_A2 (d0.2.2.length) (p0_c2)]) 102 rfl rfl rfl (fun g1 => ?_)
  refine VO.as ?_
  refine VO.k4 0 1 2 4 ?_
  refine VC.seq ?_
  refine VC.rs ?_
  refine VO.callN 103 rfl fnOk8 rfl (fun W hW => lives13_ok W ) (fun v3 m3 hv3 => ?_)
  subst hv3
  refine VO.y rfl (.not rfl) ?_
  refine VO.k5 0 1 2 4 21 ?_
  refine VC.condF rfl ?_
  refine VC.skip ?_
  refine outN ?_
  refine VC.seq ?_
  refine VC.rs ?_
  refine VO.y rfl (.fa rfl tst32 rfl) ?_
  refine VO.y rfl (.ld1 102 rfl tk30 rfl (cellsAt_one rfl rfl)) ?_
  refine VO.y rfl (.lenS rfl tsl30) ?_
  refine VO.y rfl (.gtr rfl rfl) ?_
  refine VO.mv ?_
  refine VO.dec (t := 26) rfl (fun hc4 => ?_) (fun hc4 => ?_)
  · -- T
    refine VO.gy rfl ⟨_, rfl, rfl⟩ (.fa rfl tst32 rfl) ?_
    refine VO.gy rfl ⟨_, rfl, rfl⟩ (.ld1 102 rfl tk30 rfl (cellsAt_one rfl rfl)) ?_
    refine VO.gy rfl ⟨_, rfl, rfl⟩ (.lenS rfl tsl30) ?_
    refine VO.gy rfl ⟨_, rfl, rfl⟩ (.leq rfl rfl) ?_
    refine VO.y rfl (.pT rfl rfl) ?_
    refine VO.mv ?_
    refine VO.dec (t := 32) rfl (fun hc5 => ?_) (fun hc5 => ?_)
    · -- TT
      refine VO.gN ?_
      refine VO.gN ?_
      refine VO.gN ?_
      refine VO.y rfl (.pT rfl rfl) ?_
      refine VO.kp [102, 0] [(102, mone g1 (.cells [Value.int .i64 (d0.1), Value.int .i64 (d0.2.1), Value.slice p0_A2 (d0.2.2.length) (p0_c2)].toArray 32 (0, 0))), (0, wm W)] ?_
      refine VO.k6 0 1 2 4 21 36 ?_
      refine VC.condT rfl ?_
      refine VC.rs ?_
      refine VO.as ?_
      refine VO.k6 0 1 2 4 21 36 ?_
      refine VC.ret ?_
      refine outR ?_
      refine ⟨_, _, res_run (rs := [.tmp 4]) rfl (.tmp rfl .nil), fun W_ hI => out_of (l := []) hI [] rfl rfl (mle_refl _) (fun hS_ => ?_)⟩
      dsimp only [packV]
      all_goals (first | rfl | (rfl))
    · -- TF
      refine VO.gy rfl ⟨_, rfl, rfl⟩ (.mv rfl) ?_
      refine VO.gy rfl ⟨_, rfl, rfl⟩ (.lenS rfl tsl38) ?_
      refine VO.gy rfl ⟨_, rfl, rfl⟩ (.gtr rfl rfl) ?_
      refine VO.y rfl (.pF rfl rfl) ?_
      refine VO.kp [102, 0] [(102, mone g1 (.cells [Value.int .i64 (d0.1), Value.int .i64 (d0.2.1), Value.slice p0_A2 (d0.2.2.length) (p0_c2)].toArray 32 (0, 0))), (0, wm W)] ?_
      refine VO.k6 0 1 2 4 21 36 ?_
      refine VC.cond rfl (fun hc6 => ?_) (fun hc6 => ?_)
      · -- TFT
        refine VC.rs ?_
        refine VO.as ?_
        refine VO.k6 0 1 2 4 21 36 ?_
        refine VC.ret ?_
        refine outR ?_
        refine ⟨_, _, res_run (rs := [.tmp 4]) rfl (.tmp rfl .nil), fun W_ hI => out_of (l := []) hI [] rfl rfl (mle_refl _) (fun hS_ => ?_)⟩
        dsimp only [packV]
        all_goals (first | rfl | (rfl))
      · -- TFF
        refine VC.skip ?_
        refine outN ?_
        refine VC.rs ?_
        refine VO.y rfl (.fa rfl tst32 rfl) ?_
        refine VO.y rfl (.ld1 102 rfl tk30 rfl (cellsAt_one rfl rfl)) ?_
        refine VO.callN 107 rfl fnOk15 rfl (fun W hW => LentOps_ok W (Rd.mono p0_2 (hW.at (i := 0) rfl)) bd) (fun v7 m7 hv7 => ?_)
        obtain ⟨s7_0, rfl, f7_0⟩ := hv7
        obtain ⟨A7_0, c7_0, eq7_0, l7_0, k7_0⟩ := f7_0.slice
        subst eq7_0
        simp only [maxLen] at k7_0
        refine VO.mv ?_
        refine VO.callN 108 rfl fnOk16 rfl (fun W hW => LentBytes_ok W (Rd.mono h1 (hW.at (i := 0) rfl)) bd) (fun v8 m8 hv8 => ?_)
        obtain ⟨s8_0, rfl, f8_0⟩ := hv8
        obtain ⟨A8_0, c8_0, eq8_0, l8_0, k8_0⟩ := f8_0.slice
        subst eq8_0
        simp only [maxLen] at k8_0
        refine VO.as ?_
        refine VO.as ?_
        refine VO.k8 0 1 2 4 5 6 21 36 ?_
        refine VC.seq ?_
        refine VC.regD _ 11 [(0, true), (1, true), (2, true), (3, true), (4, true), (5, true), (6, true), (7, true), (8, true), (9, true), (10, false)] follows (by kernel_rfl) (fun _ h => h.sub [108, 107, 102, 0]) ?_
        refine VD.y rfl rfl (.inl rfl) (.fa rfl tst32 rfl) ?_
        refine VD.y rfl rfl (.inl rfl) (.ld1 102 rfl tk3 rfl (cellsAt_one rfl rfl)) ?_
        refine VD.y rfl rfl (.inl rfl) (.fa rfl tst32 rfl) ?_
        refine VD.y rfl rfl (.inl rfl) (.ld1 102 rfl tk3 rfl (cellsAt_one rfl rfl)) ?_
        refine VD.y rfl rfl (.inl rfl) (.mv rfl) ?_
        refine VD.y rfl rfl (.inl rfl) (.fa rfl tst32 rfl) ?_
        refine VD.y rfl rfl (.inl rfl) (.ld1 102 rfl tk30 rfl (cellsAt_one rfl rfl)) ?_
        refine VD.y rfl rfl (.inl rfl) (.lenS rfl tsl30) ?_
        have hs9 := (OwnL.rd (Ow.ownl f7_0 rfl mnil) (mle_refl _) (mle_nil _)).pre (j := d0.2.2.length) bd
        rw [List.take_left] at hs9
        refine VD.y rfl rfl (.inl rfl) (.slHI d0.2.2.length rfl rfl tsl30 rfl bd) ?_
        refine VD.y rfl rfl (.inl rfl) (.bst (cs := [Value.int .i64 (d0.1), Value.int .i64 (d0.2.1), Value.slice A7_0 (d0.2.2.length) (c7_0)]) rfl tst32 tz32 rfl) ?_
        refine VD.alloc 111 rfl rfl tz32 (fun _ _ h => h.sub [108, 107, 102, 0]) (fun g10 => ?_)
        refine VD.nil rfl ?_ rfl
        refine VO.store (k := 3) (c' := [Value.int .i64 (d0.1), Value.int .i64 (d0.2.1), Value.slice A7_0 (d0.2.2.length) (c7_0)]) 111 rfl rfl (.inl tk32) rfl rfl rfl rfl rfl ?_
        refine VO.k9 0 1 2 4 5 6 7 21 36 ?_
        refine outN ?_
        refine VC.rs ?_
        refine VO.y rfl (.ldA 111 rfl tk32 rfl (cellsAt_one rfl rfl)) ?_
        refine VO.callN 112 rfl fnOk17 rfl (fun W hW => runEncode_ok W (show Rd TRun _ _ d0 from (mk_Run (m := wm W) d0.1 d0.2.1 d0.2.2 bdk bdk (OwnL.rd (by have h_ := ((Ow.ownl f7_0 rfl mnil).pre (j := d0.2.2.length) bd); rw [List.take_left] at h_; exact h_) (hW.at (i := 107) rfl) (mle_nil _))))) (fun v12 m12 hv12 => ?_)
        obtain ⟨s12_0, rfl, f12_0⟩ := hv12
        have hfa13 := runEncode_len d0
        obtain ⟨A12_0, c12_0, eq12_0, l12_0, k12_0⟩ := f12_0.slice
        subst eq12_0
        simp only [maxLen] at k12_0
        refine VO.mv ?_
        refine VO.y rfl (.ext rfl rfl) ?_
        refine VO.y rfl (.ext rfl rfl) ?_
        refine VO.as ?_
        refine VO.as ?_
        refine VO.kp [112, 111, 108, 107, 102, 0] [(112, m12), (111, mone g10 (.cells [Value.int .i64 (d0.1), Value.int .i64 (d0.2.1), Value.slice A7_0 (d0.2.2.length) (c7_0)].toArray 32 (0, 0))), (108, m8), (107, m7), (102, mone g1 (.cells [Value.int .i64 (d0.1), Value.int .i64 (d0.2.1), Value.slice p0_A2 (d0.2.2.length) (p0_c2)].toArray 32 (0, 0))), (0, wm W)] ?_
        refine VO.k11 0 1 2 4 5 6 7 8 9 21 36 ?_
        refine VC.rs ?_
        refine VO.y rfl (.ldA 102 rfl tk32 rfl (cellsAt_one rfl rfl)) ?_
        refine VO.callN 114 rfl fnOk18 rfl (fun W hW => rfEncode_ok W (Rd.mono h0 (hW.at (i := 0) rfl))) (fun v14 m14 hv14 => ?_)
        obtain ⟨s14_0, rfl, f14_0⟩ := hv14
        have hfa15 := runEncode_len d0
        obtain ⟨A14_0, c14_0, eq14_0, l14_0, k14_0⟩ := f14_0.slice
        subst eq14_0
        simp only [maxLen] at k14_0
        refine VO.mv ?_
        refine VO.y rfl (.ext rfl rfl) ?_
        refine VO.y rfl (.ext rfl rfl) ?_
        refine VO.as ?_
        refine VO.as ?_
        refine VO.k13 0 1 2 4 5 6 7 8 9 10 11 21 36 ?_
        refine VC.rs ?_
        refine VO.y rfl (.ldA 111 rfl tk32 rfl (cellsAt_one rfl rfl)) ?_
        refine VO.callN 116 rfl fnOk17 rfl (fun W hW => runEncode_ok W (show Rd TRun _ _ d0 from (mk_Run (m := wm W) d0.1 d0.2.1 d0.2.2 bdk bdk (OwnL.rd (by have h_ := ((Ow.ownl f7_0 rfl mnil).pre (j := d0.2.2.length) bd); rw [List.take_left] at h_; exact h_) (hW.at (i := 107) rfl) (mle_nil _))))) (fun v16 m16 hv16 => ?_)
        obtain ⟨s16_0, rfl, f16_0⟩ := hv16
        have hfa17 := runEncode_len d0
        obtain ⟨A16_0, c16_0, eq16_0, l16_0, k16_0⟩ := f16_0.slice
        subst eq16_0
        simp only [maxLen] at k16_0
        refine VO.mv ?_
        refine VO.y rfl (.ext rfl rfl) ?_
        refine VO.y rfl (.ext rfl rfl) ?_
        refine VO.as ?_
        refine VO.as ?_
        refine VO.k14 0 1 2 4 5 6 7 8 9 10 11 12 21 36 ?_
        refine VC.rs ?_
        refine VO.mv ?_
        refine VO.mv ?_
        refine VO.y rfl (.lenS rfl tsl38) ?_
        have hs18 := (OwnL.rd (Ow.ownl f8_0 rfl mnil) (mle_refl _) (mle_nil _)).pre (j := d1.length) bd
        rw [List.take_left] at hs18
        refine VO.y rfl (.slHI d1.length rfl rfl tsl38 rfl bd) ?_
        refine VO.callN 119 rfl fnOk19 rfl (fun W hW => runDecode_ok W (OwnL.rd (by have h_ := ((Ow.ownl f8_0 rfl mnil).pre (j := d1.length) bd); rw [List.take_left] at h_; exact h_) (hW.at (i := 108) rfl) (mle_nil _))) (fun v19 m19 hv19 => ?_)
        obtain ⟨s19_0, rfl, f19_0⟩ := hv19
        have hfa20 := runDecode_fits d1
        obtain ⟨q19_0_A2, q19_0_c2, q19_0_n2, rfl, q19_0_S, q19_0_0, q19_0_1, q19_0_2⟩ := openO_Run (x0 := ((runDecode d1).1).1) (x1 := ((runDecode d1).1).2.1) (x2 := ((runDecode d1).1).2.2) f19_0
        simp only [inK] at q19_0_0
        simp only [inK] at q19_0_1
        have q19_0_r2 := q19_0_2.rm
        refine VO.inv _ (fun _ h => h.parts (i := 119) rfl q19_0_S [121]) ?_
        refine VO.mv ?_
        refine VO.y rfl (.ext rfl rfl) ?_
        refine VO.y rfl (.ext rfl rfl) ?_
        refine VO.alloc 123 rfl tz32 (fun g22 => ?_)
        refine VO.store (k := 3) (c' := [Value.int .i64 (((runDecode d1).1).1), Value.int .i64 (((runDecode d1).1).2.1), Value.slice q19_0_A2 ((((runDecode d1).1).2.2).length) (q19_0_c2)]) 123 rfl rfl (.inl tk32) rfl rfl rfl rfl rfl ?_
        refine VO.as ?_
        refine VO.kp [123, 121, 116, 114, 112, 111, 108, 107, 102, 0] [(123, mone g22 (.cells [Value.int .i64 (((runDecode d1).1).1), Value.int .i64 (((runDecode d1).1).2.1), Value.slice q19_0_A2 ((((runDecode d1).1).2.2).length) (q19_0_c2)].toArray 32 (0, 0))), (121, q19_0_n2), (116, m16), (114, m14), (112, m12), (111, mone g10 (.cells [Value.int .i64 (d0.1), Value.int .i64 (d0.2.1), Value.slice A7_0 (d0.2.2.length) (c7_0)].toArray 32 (0, 0))), (108, m8), (107, m7), (102, mone g1 (.cells [Value.int .i64 (d0.1), Value.int .i64 (d0.2.1), Value.slice p0_A2 (d0.2.2.length) (p0_c2)].toArray 32 (0, 0))), (0, wm W)] ?_
        refine VO.k16 0 1 2 4 5 6 7 8 9 10 11 12 14 15 21 36 ?_
        refine VC.rs ?_
        refine VO.mv ?_
        refine VO.callN 124 rfl fnOk20 rfl (fun W hW => rfDecode_ok W (Rd.mono h1 (hW.at (i := 0) rfl)) bd) (fun v24 m24 hv24 => ?_)
        obtain ⟨s24_0, rfl, f24_0⟩ := hv24
        have hfa25 := runDecode_fits d1
        obtain ⟨q24_0_A2, q24_0_c2, q24_0_n2, rfl, q24_0_S, q24_0_0, q24_0_1, q24_0_2⟩ := openO_Run (x0 := ((runDecode d1).1).1) (x1 := ((runDecode d1).1).2.1) (x2 := ((runDecode d1).1).2.2) f24_0
        simp only [inK] at q24_0_0
        simp only [inK] at q24_0_1
        have q24_0_r2 := q24_0_2.rm
        refine VO.inv _ (fun _ h => h.parts (i := 124) rfl q24_0_S [126]) ?_
        refine VO.mv ?_
        refine VO.y rfl (.ext rfl rfl) ?_
        refine VO.y rfl (.ext rfl rfl) ?_
        refine VO.alloc 128 rfl tz32 (fun g27 => ?_)
        refine VO.store (k := 3) (c' := [Value.int .i64 (((runDecode d1).1).1), Value.int .i64 (((runDecode d1).1).2.1), Value.slice q24_0_A2 ((((runDecode d1).1).2.2).length) (q24_0_c2)]) 128 rfl rfl (.inl tk32) rfl rfl rfl rfl rfl ?_
        refine VO.as ?_
        refine VO.k18 0 1 2 4 5 6 7 8 9 10 11 12 14 15 16 17 21 36 ?_
        refine VC.rs ?_
        refine VO.mv ?_
        refine VO.mv ?_
        refine VO.y rfl (.lenS rfl tsl38) ?_
        have hs29 := (OwnL.rd (Ow.ownl f8_0 rfl mnil) (mle_refl _) (mle_nil _)).pre (j := d1.length) bd
        rw [List.take_left] at hs29
        refine VO.y rfl (.slHI d1.length rfl rfl tsl38 rfl bd) ?_
        refine VO.callN 130 rfl fnOk19 rfl (fun W hW => runDecode_ok W (OwnL.rd (by have h_ := ((Ow.ownl f8_0 rfl mnil).pre (j := d1.length) bd); rw [List.take_left] at h_; exact h_) (hW.at (i := 108) rfl) (mle_nil _))) (fun v30 m30 hv30 => ?_)
        obtain ⟨s30_0, rfl, f30_0⟩ := hv30
        have hfa31 := runDecode_fits d1
        obtain ⟨q30_0_A2, q30_0_c2, q30_0_n2, rfl, q30_0_S, q30_0_0, q30_0_1, q30_0_2⟩ := openO_Run (x0 := ((runDecode d1).1).1) (x1 := ((runDecode d1).1).2.1) (x2 := ((runDecode d1).1).2.2) f30_0
        simp only [inK] at q30_0_0
        simp only [inK] at q30_0_1
        have q30_0_r2 := q30_0_2.rm
        refine VO.inv _ (fun _ h => h.parts (i := 130) rfl q30_0_S [132]) ?_
        refine VO.mv ?_
        refine VO.y rfl (.ext rfl rfl) ?_
        refine VO.y rfl (.ext rfl rfl) ?_
        refine VO.alloc 134 rfl tz32 (fun g33 => ?_)
        refine VO.store (k := 3) (c' := [Value.int .i64 (((runDecode d1).1).1), Value.int .i64 (((runDecode d1).1).2.1), Value.slice q30_0_A2 ((((runDecode d1).1).2.2).length) (q30_0_c2)]) 134 rfl rfl (.inl tk32) rfl rfl rfl rfl rfl ?_
        refine VO.as ?_
        refine VO.k19 0 1 2 4 5 6 7 8 9 10 11 12 14 15 16 17 18 21 36 ?_
        refine VC.seq ?_
        refine VC.seq ?_
        refine VC.regE [(134, mone g33 (.cells [Value.int .i64 (((runDecode d1).1).1), Value.int .i64 (((runDecode d1).1).2.1), Value.slice q30_0_A2 ((((runDecode d1).1).2.2).length) (q30_0_c2)].toArray 32 (0, 0))), (132, q30_0_n2), (128, mone g27 (.cells [Value.int .i64 (((runDecode d1).1).1), Value.int .i64 (((runDecode d1).1).2.1), Value.slice q24_0_A2 ((((runDecode d1).1).2.2).length) (q24_0_c2)].toArray 32 (0, 0))), (126, q24_0_n2), (123, mone g22 (.cells [Value.int .i64 (((runDecode d1).1).1), Value.int .i64 (((runDecode d1).1).2.1), Value.slice q19_0_A2 ((((runDecode d1).1).2.2).length) (q19_0_c2)].toArray 32 (0, 0))), (121, q19_0_n2), (116, m16), (114, m14), (112, m12), (111, mone g10 (.cells [Value.int .i64 (d0.1), Value.int .i64 (d0.2.1), Value.slice A7_0 (d0.2.2.length) (c7_0)].toArray 32 (0, 0))), (108, m8), (107, m7), (102, mone g1 (.cells [Value.int .i64 (d0.1), Value.int .i64 (d0.2.1), Value.slice p0_A2 (d0.2.2.length) (p0_c2)].toArray 32 (0, 0))), (0, wm W)] 26 follows (by kernel_rfl) (fun _ h => h.sub [134, 132, 128, 126, 123, 121, 116, 114, 112, 111, 108, 107, 102, 0]) ?_
        refine VE.y 0 rfl rfl (.inl rfl) (by kernel_rfl) (.ldA 111 rfl tk32 rfl (cellsAt_one rfl rfl)) ?_
        refine VE.y 2 rfl rfl (.inl rfl) (by kernel_rfl) (.ldA 102 rfl tk32 rfl (cellsAt_one rfl rfl)) ?_
        refine VE.tree [1] (by kernel_rfl) ⟨?_, trivial⟩
        refine VI.callN 135 rfl rfl (.inl rfl) fnOk14 rfl (fun _ h => Inv.sbK [134, 132, 128, 126, 123, 121, 116, 114, 112, 111, 108, 107, 102, 0] h) (fun W hW => runCheck_ok_ W (show Rd TRun _ _ d0 from (mk_Run (m := wm W) d0.1 d0.2.1 d0.2.2 bdk bdk (OwnL.rd (by have h_ := ((Ow.ownl f7_0 rfl mnil).pre (j := d0.2.2.length) bd); rw [List.take_left] at h_; exact h_) (hW.at (i := 107) rfl) (mle_nil _))))) (fun v35 m35 hv35 => ?_)
        subst hv35
        have hfa36 := runCheck_range d0
        refine VE.tree [3] (by kernel_rfl) ⟨?_, trivial⟩
        refine VI.callN 137 rfl rfl (.inl rfl) fnOk21 rfl (fun _ h => Inv.sbK [134, 132, 128, 126, 123, 121, 116, 114, 112, 111, 108, 107, 102, 0] h) (fun W hW => rfCheck_ok W (Rd.mono h0 (hW.at (i := 0) rfl))) (fun v37 m37 hv37 => ?_)
        subst hv37
        have hfa38 := runCheck_range d0
        refine VE.y 4 rfl rfl (.inl rfl) (by kernel_rfl) (.neq rfl rfl) ?_
        refine VE.y 5 rfl rfl (.inl rfl) (by kernel_rfl) (.mv rfl) ?_
        refine VE.dec (s := 93) rfl (fun hc39 => ?_) (fun hc39 => ?_)
        · -- TFFT
          exact absurd rfl hc39
        · -- TFFF
          refine VE.y 6 rfl rfl (.inr ⟨_, _, rfl, _, rfl, rfl⟩) (by kernel_rfl) (.mv rfl) ?_
          refine VE.y 7 rfl rfl (.inr ⟨_, _, rfl, _, rfl, rfl⟩) (by kernel_rfl) (.mv rfl) ?_
          refine VE.y 8 rfl rfl (.inr ⟨_, _, rfl, _, rfl, rfl⟩) (by kernel_rfl) (.neq rfl rfl) ?_
          refine VE.y 9 rfl rfl (.inl rfl) (by kernel_rfl) (.pF rfl rfl) ?_
          refine VE.y 10 rfl rfl (.inl rfl) (by kernel_rfl) (.mv rfl) ?_
          refine VE.dec (s := 98) rfl (fun hc40 => ?_) (fun hc40 => ?_)
          · -- TFFFT
            exact absurd rfl hc40
          · -- TFFFF
            refine VE.y 11 rfl rfl (.inr ⟨_, _, rfl, _, rfl, rfl⟩) (by kernel_rfl) (.mv rfl) ?_
            refine VE.y 12 rfl rfl (.inr ⟨_, _, rfl, _, rfl, rfl⟩) (by kernel_rfl) (.mv rfl) ?_
            refine VE.y 13 rfl rfl (.inr ⟨_, _, rfl, _, rfl, rfl⟩) (by kernel_rfl) (.neq rfl rfl) ?_
            refine VE.y 14 rfl rfl (.inl rfl) (by kernel_rfl) (.pF rfl rfl) ?_
            refine VE.y 15 rfl rfl (.inl rfl) (by kernel_rfl) (.mv rfl) ?_
            refine VE.dec (s := 103) rfl (fun hc41 => ?_) (fun hc41 => ?_)
            · -- TFFFFT
              exact absurd rfl hc41
            · -- TFFFFF
              refine VE.y 16 rfl rfl (.inr ⟨_, _, rfl, _, rfl, rfl⟩) (by kernel_rfl) (.mv rfl) ?_
              refine VE.y 17 rfl rfl (.inr ⟨_, _, rfl, _, rfl, rfl⟩) (by kernel_rfl) (.mv rfl) ?_
              refine VE.tree [18] (by kernel_rfl) ⟨?_, trivial⟩
              refine VI.callN 142 rfl rfl (.inr ⟨_, _, rfl, _, rfl, rfl⟩) fnOk22 rfl (fun _ h => Inv.sbK [134, 132, 128, 126, 123, 121, 116, 114, 112, 111, 108, 107, 102, 0] h) (fun W hW => SameBytes_ok W (OwnL.rd (Ow.ownl f12_0 rfl mnil) (hW.at (i := 112) rfl) (mle_nil _)) (OwnL.rd (Ow.ownl f14_0 rfl mnil) (hW.at (i := 114) rfl) (mle_nil _))) (fun v42 m42 hv42 => ?_)
              subst hv42
              refine VE.y 19 rfl rfl (.inr ⟨_, _, rfl, _, rfl, rfl⟩) (by kernel_rfl) (.notD rfl) ?_
              refine VE.y 20 rfl rfl (.inl rfl) (by kernel_rfl) (.pF rfl rfl) ?_
              refine VE.y 21 rfl rfl (.inl rfl) (by kernel_rfl) (.mv rfl) ?_
              refine VE.dec (s := 109) rfl (fun hc43 => ?_) (fun hc43 => ?_)
              · -- TFFFFFT
                exact absurd rfl hc43
              · -- TFFFFFF
                refine VE.y 22 rfl rfl (.inr ⟨_, _, rfl, _, rfl, rfl⟩) (by kernel_rfl) (.ldA 123 rfl tk32 rfl (cellsAt_one rfl rfl)) ?_
                refine VE.y 24 rfl rfl (.inr ⟨_, _, rfl, _, rfl, rfl⟩) (by kernel_rfl) (.ldA 128 rfl tk32 rfl (cellsAt_one rfl rfl)) ?_
                refine VE.tree [23, 25] (by kernel_rfl) ⟨?_, ?_, trivial⟩
                · -- TFFFFFF0
                  refine VI.gbsl (cs := [Value.int .i64 (((runDecode d1).1).1), Value.int .i64 (((runDecode d1).1).2.1), Value.slice q19_0_A2 ((((runDecode d1).1).2.2).length) (q19_0_c2)]) 145 rfl rfl ⟨_, rfl, rfl⟩ rfl tsl47 tz32 rfl rfl (fun _ h => Inv.sbK [134, 132, 128, 126, 123, 121, 116, 114, 112, 111, 108, 107, 102, 0] h) (fun g44 => ?_)
                  refine VE.tree [25] (by kernel_rfl) ⟨?_, trivial⟩
                  refine VI.gbsl (cs := [Value.int .i64 (((runDecode d1).1).1), Value.int .i64 (((runDecode d1).1).2.1), Value.slice q24_0_A2 ((((runDecode d1).1).2.2).length) (q24_0_c2)]) 147 rfl rfl ⟨_, rfl, rfl⟩ rfl tsl47 tz32 rfl rfl (fun _ h => Inv.sbK [134, 132, 128, 126, 123, 121, 116, 114, 112, 111, 108, 107, 102, 0] h) (fun g46 => ?_)
                  refine VE.nil (by kernel_rfl) rfl ?_ rfl
                  refine VO.gather (l := [mone g44 (.cells [Value.int .i64 (((runDecode d1).1).1), Value.int .i64 (((runDecode d1).1).2.1), Value.slice q19_0_A2 ((((runDecode d1).1).2.2).length) (q19_0_c2)].toArray 32 (0, 0)), q19_0_n2]) 150 [145, 121] rfl (fun hg49 => ?_)
                  have ho49 : Ow (.sl TRun) (muns [mone g44 (.cells [Value.int .i64 (((runDecode d1).1).1), Value.int .i64 (((runDecode d1).1).2.1), Value.slice q19_0_A2 ((((runDecode d1).1).2.2).length) (q19_0_c2)].toArray 32 (0, 0)), q19_0_n2]) [Value.slice (some ⟨g44, 0, none⟩) (1) (1)] [((runDecode d1).1)] := Ow.lit 1 (Seps.grp1 (ls := [[q19_0_n2]]) hg49) (OwAs.cons (m := muns [q19_0_n2]) (c1 := [Value.int .i64 (((runDecode d1).1).1), Value.int .i64 (((runDecode d1).1).2.1), Value.slice q19_0_A2 ((((runDecode d1).1).2.2).length) (q19_0_c2)]) (show Ow TRun _ _ ((runDecode d1).1) from (mkO_Run (((runDecode d1).1).1) (((runDecode d1).1).2.1) (((runDecode d1).1).2.2) (Seps.self hg49 (List.Sublist.cons _ (List.Sublist.cons_cons _ List.Sublist.slnil))) bdk bdk (OwnL.ow (Ow.ownl q19_0_2 rfl mnil) rfl))) OwAs.nil) rfl rfl
                  refine VO.gather (l := [mone g46 (.cells [Value.int .i64 (((runDecode d1).1).1), Value.int .i64 (((runDecode d1).1).2.1), Value.slice q24_0_A2 ((((runDecode d1).1).2.2).length) (q24_0_c2)].toArray 32 (0, 0)), q24_0_n2]) 152 [147, 126] rfl (fun hg51 => ?_)
                  have ho51 : Ow (.sl TRun) (muns [mone g46 (.cells [Value.int .i64 (((runDecode d1).1).1), Value.int .i64 (((runDecode d1).1).2.1), Value.slice q24_0_A2 ((((runDecode d1).1).2.2).length) (q24_0_c2)].toArray 32 (0, 0)), q24_0_n2]) [Value.slice (some ⟨g46, 0, none⟩) (1) (1)] [((runDecode d1).1)] := Ow.lit 1 (Seps.grp1 (ls := [[q24_0_n2]]) hg51) (OwAs.cons (m := muns [q24_0_n2]) (c1 := [Value.int .i64 (((runDecode d1).1).1), Value.int .i64 (((runDecode d1).1).2.1), Value.slice q24_0_A2 ((((runDecode d1).1).2.2).length) (q24_0_c2)]) (show Ow TRun _ _ ((runDecode d1).1) from (mkO_Run (((runDecode d1).1).1) (((runDecode d1).1).2.1) (((runDecode d1).1).2.2) (Seps.self hg51 (List.Sublist.cons _ (List.Sublist.cons_cons _ List.Sublist.slnil))) bdk bdk (OwnL.ow (Ow.ownl q24_0_2 rfl mnil) rfl))) OwAs.nil) rfl rfl
                  refine VO.gcallN 148 rfl ⟨_, rfl, rfl⟩ fnOk23 rfl (fun W hW => SameRuns_ok W (Ow.rd ho49 (hW.at (i := 150) rfl)) (Ow.rd ho51 (hW.at (i := 152) rfl))) (fun v48 m48 hv48 => ?_)
                  subst hv48
                  refine VO.parts 150 [145, 121] rfl hg49 ?_
                  refine VO.parts 152 [147, 126] rfl hg51 ?_
                  refine VO.gy rfl ⟨_, rfl, rfl⟩ (.notD rfl) ?_
                  refine VO.y rfl (.pF rfl rfl) ?_
                  refine VO.kp [126, 121, 134, 132, 128, 123, 116, 114, 112, 111, 108, 107, 102, 0] [(126, q24_0_n2), (121, q19_0_n2), (134, mone g33 (.cells [Value.int .i64 (((runDecode d1).1).1), Value.int .i64 (((runDecode d1).1).2.1), Value.slice q30_0_A2 ((((runDecode d1).1).2.2).length) (q30_0_c2)].toArray 32 (0, 0))), (132, q30_0_n2), (128, mone g27 (.cells [Value.int .i64 (((runDecode d1).1).1), Value.int .i64 (((runDecode d1).1).2.1), Value.slice q24_0_A2 ((((runDecode d1).1).2.2).length) (q24_0_c2)].toArray 32 (0, 0))), (123, mone g22 (.cells [Value.int .i64 (((runDecode d1).1).1), Value.int .i64 (((runDecode d1).1).2.1), Value.slice q19_0_A2 ((((runDecode d1).1).2.2).length) (q19_0_c2)].toArray 32 (0, 0))), (116, m16), (114, m14), (112, m12), (111, mone g10 (.cells [Value.int .i64 (d0.1), Value.int .i64 (d0.2.1), Value.slice A7_0 (d0.2.2.length) (c7_0)].toArray 32 (0, 0))), (108, m8), (107, m7), (102, mone g1 (.cells [Value.int .i64 (d0.1), Value.int .i64 (d0.2.1), Value.slice p0_A2 (d0.2.2.length) (p0_c2)].toArray 32 (0, 0))), (0, wm W)] ?_
                  refine VO.k20 0 1 2 4 5 6 7 8 9 10 11 12 14 15 16 17 18 21 36 116 ?_
                  refine outN ?_
                  refine VC.cond rfl (fun hc53 => ?_) (fun hc53 => ?_)
                  · -- TFFFFFF0T
                    exact absurd rfl hc53
                  · -- TFFFFFF0F
                    refine VC.skip ?_
                    refine outN ?_
                    refine VC.rs ?_
                    refine VO.mv ?_
                    refine VO.y rfl (.fa rfl tst32 rfl) ?_
                    refine VO.y rfl (.ld1 102 rfl tk30 rfl (cellsAt_one rfl rfl)) ?_
                    refine VO.callN 154 rfl fnOk24 rfl (fun W hW => KeptOps_ok W (OwnL.rd (Ow.ownl f7_0 rfl mnil) (hW.at (i := 107) rfl) (mle_nil _)) (Rd.mono p0_2 (hW.at (i := 0) rfl)) bd) (fun v54 m54 hv54 => ?_)
                    subst hv54
                    refine VO.mv ?_
                    refine VO.dec (t := 121) rfl (fun hc55 => ?_) (fun hc55 => ?_)
                    · -- TFFFFFF0FT
                      refine VO.gy rfl ⟨_, rfl, rfl⟩ (.mv rfl) ?_
                      refine VO.gy rfl ⟨_, rfl, rfl⟩ (.mv rfl) ?_
                      refine VO.gcallN 156 rfl ⟨_, rfl, rfl⟩ fnOk25 rfl (fun W hW => KeptBytes_ok W (OwnL.rd (Ow.ownl f8_0 rfl mnil) (hW.at (i := 108) rfl) (mle_nil _)) (Rd.mono h1 (hW.at (i := 0) rfl)) bd) (fun v56 m56 hv56 => ?_)
                      subst hv56
                      refine VO.y rfl (.pT rfl rfl) ?_
                      refine VO.mv ?_
                      refine VO.dec (t := 126) rfl (fun hc57 => ?_) (fun hc57 => ?_)
                      · -- TFFFFFF0FTT
                        refine VO.gy rfl ⟨_, rfl, rfl⟩ (.mv rfl) ?_
                        refine VO.gy rfl ⟨_, rfl, rfl⟩ (.mv rfl) ?_
                        refine VO.gbsl (cs := [Value.slice A12_0 (((runEncode d0).1).length) (c12_0), Value.slice A16_0 (((runEncode d0).1).length) (c16_0)]) 159 rfl ⟨_, rfl, rfl⟩ rfl tsl50 tz38 rfl rfl (fun g58 => ?_)
                        refine VO.gather (l := [mone g58 (.cells [Value.slice A12_0 (((runEncode d0).1).length) (c12_0), Value.slice A16_0 (((runEncode d0).1).length) (c16_0)].toArray 38 (0, 0)), m12, m16]) 162 [159, 112, 116] rfl (fun hg61 => ?_)
                        have ho61 : Ow (.sl (.sl .byte)) (muns [mone g58 (.cells [Value.slice A12_0 (((runEncode d0).1).length) (c12_0), Value.slice A16_0 (((runEncode d0).1).length) (c16_0)].toArray 38 (0, 0)), m12, m16]) [Value.slice (some ⟨g58, 0, none⟩) (2) (2)] [(runEncode d0).1, (runEncode d0).1] := Ow.lit 2 (Seps.grp1 (ls := [[m12], [m16]]) hg61) (OwAs.cons (m := muns [m12]) (c1 := [Value.slice A12_0 (((runEncode d0).1).length) (c12_0)]) (Ow.up (OwnL.ow (Ow.ownl f12_0 rfl mnil) rfl) ((Seps.self hg61 (List.Sublist.cons _ (List.Sublist.cons_cons _ (List.Sublist.cons _ List.Sublist.slnil)))).1 _ (.head _))) (OwAs.cons (m := muns [m16]) (c1 := [Value.slice A16_0 (((runEncode d0).1).length) (c16_0)]) (Ow.up (OwnL.ow (Ow.ownl f16_0 rfl mnil) rfl) ((Seps.self hg61 (List.Sublist.cons _ (List.Sublist.cons _ (List.Sublist.cons_cons _ List.Sublist.slnil)))).1 _ (.head _))) OwAs.nil)) rfl rfl
                        refine VO.gcall 162 rfl ⟨_, rfl, rfl⟩ fnOk26 rfl rfl (fun W hW => ApartBytes_ok W (hW.at (i := 162) rfl) ho61 bd (by exact two_runE d0)) (fun v60 m60 hv60 => ?_)
                        subst hv60
                        refine VO.y rfl (.pT rfl rfl) ?_
                        refine VO.mv ?_
                        refine VO.gy rfl ⟨_, rfl, rfl⟩ (.fa rfl tst32 rfl) ?_
                        refine VO.gy rfl ⟨_, rfl, rfl⟩ (.ld1 123 rfl tk30 rfl (cellsAt_one rfl rfl)) ?_
                        refine VO.gy rfl ⟨_, rfl, rfl⟩ (.fa rfl tst32 rfl) ?_
                        refine VO.gy rfl ⟨_, rfl, rfl⟩ (.ld1 134 rfl tk30 rfl (cellsAt_one rfl rfl)) ?_
                        refine VO.gbsl (cs := [Value.slice q19_0_A2 ((((runDecode d1).1).2.2).length) (q19_0_c2), Value.slice q30_0_A2 ((((runDecode d1).1).2.2).length) (q30_0_c2)]) 164 rfl ⟨_, rfl, rfl⟩ rfl tsl52 tz30 rfl rfl (fun g63 => ?_)
                        refine VO.gather (l := [mone g63 (.cells [Value.slice q19_0_A2 ((((runDecode d1).1).2.2).length) (q19_0_c2), Value.slice q30_0_A2 ((((runDecode d1).1).2.2).length) (q30_0_c2)].toArray 30 (0, 0)), q19_0_n2, q30_0_n2]) 167 [164, 121, 132] rfl (fun hg66 => ?_)
                        have ho66 : Ow (.sl (.sl TOp)) (muns [mone g63 (.cells [Value.slice q19_0_A2 ((((runDecode d1).1).2.2).length) (q19_0_c2), Value.slice q30_0_A2 ((((runDecode d1).1).2.2).length) (q30_0_c2)].toArray 30 (0, 0)), q19_0_n2, q30_0_n2]) [Value.slice (some ⟨g63, 0, none⟩) (2) (2)] [((runDecode d1).1).2.2, ((runDecode d1).1).2.2] := Ow.lit 2 (Seps.grp1 (ls := [[q19_0_n2], [q30_0_n2]]) hg66) (OwAs.cons (m := muns [q19_0_n2]) (c1 := [Value.slice q19_0_A2 ((((runDecode d1).1).2.2).length) (q19_0_c2)]) (Ow.up (OwnL.ow (Ow.ownl q19_0_2 rfl mnil) rfl) ((Seps.self hg66 (List.Sublist.cons _ (List.Sublist.cons_cons _ (List.Sublist.cons _ List.Sublist.slnil)))).1 _ (.head _))) (OwAs.cons (m := muns [q30_0_n2]) (c1 := [Value.slice q30_0_A2 ((((runDecode d1).1).2.2).length) (q30_0_c2)]) (Ow.up (OwnL.ow (Ow.ownl q30_0_2 rfl mnil) rfl) ((Seps.self hg66 (List.Sublist.cons _ (List.Sublist.cons _ (List.Sublist.cons_cons _ List.Sublist.slnil)))).1 _ (.head _))) OwAs.nil)) rfl rfl
                        refine VO.gcall 167 rfl ⟨_, rfl, rfl⟩ fnOk27 rfl rfl (fun W hW => ApartOps_ok W (hW.at (i := 167) rfl) ho66 bd (by exact two_runD d1)) (fun v65 m65 hv65 => ?_)
                        subst hv65
                        refine VO.y rfl (.pT rfl rfl) ?_
                        refine VO.as ?_
                        refine VO.k20 0 1 2 4 5 6 7 8 9 10 11 12 14 15 16 17 18 21 36 116 ?_
                        refine VC.ret ?_
                        refine ⟨_, _, res_run (rs := [.tmp 4]) rfl (.tmp rfl .nil), fun W_ hI => out_of (l := []) hI [] rfl rfl (mle_refl _) (fun hS_ => ?_)⟩
                        dsimp only [packV]
                        all_goals (first | rfl | (rfl))
                      · -- TFFFFFF0FTF
                        exact absurd rfl hc57
                    · -- TFFFFFF0FF
                      exact absurd rfl hc55
                · -- TFFFFFF1
                  refine VI.gbsl (cs := [Value.int .i64 (((runDecode d1).1).1), Value.int .i64 (((runDecode d1).1).2.1), Value.slice q24_0_A2 ((((runDecode d1).1).2.2).length) (q24_0_c2)]) 169 rfl rfl ⟨_, rfl, rfl⟩ rfl tsl47 tz32 rfl rfl (fun _ h => Inv.sbK [134, 132, 128, 126, 123, 121, 116, 114, 112, 111, 108, 107, 102, 0] h) (fun g68 => ?_)
                  refine VE.tree [23] (by kernel_rfl) ⟨?_, trivial⟩
                  refine VI.gbsl (cs := [Value.int .i64 (((runDecode d1).1).1), Value.int .i64 (((runDecode d1).1).2.1), Value.slice q19_0_A2 ((((runDecode d1).1).2.2).length) (q19_0_c2)]) 171 rfl rfl ⟨_, rfl, rfl⟩ rfl tsl47 tz32 rfl rfl (fun _ h => Inv.sbK [134, 132, 128, 126, 123, 121, 116, 114, 112, 111, 108, 107, 102, 0] h) (fun g70 => ?_)
                  refine VE.nil (by kernel_rfl) rfl ?_ rfl
                  refine VO.gather (l := [mone g70 (.cells [Value.int .i64 (((runDecode d1).1).1), Value.int .i64 (((runDecode d1).1).2.1), Value.slice q19_0_A2 ((((runDecode d1).1).2.2).length) (q19_0_c2)].toArray 32 (0, 0)), q19_0_n2]) 174 [171, 121] rfl (fun hg73 => ?_)
                  have ho73 : Ow (.sl TRun) (muns [mone g70 (.cells [Value.int .i64 (((runDecode d1).1).1), Value.int .i64 (((runDecode d1).1).2.1), Value.slice q19_0_A2 ((((runDecode d1).1).2.2).length) (q19_0_c2)].toArray 32 (0, 0)), q19_0_n2]) [Value.slice (some ⟨g70, 0, none⟩) (1) (1)] [((runDecode d1).1)] := Ow.lit 1 (Seps.grp1 (ls := [[q19_0_n2]]) hg73) (OwAs.cons (m := muns [q19_0_n2]) (c1 := [Value.int .i64 (((runDecode d1).1).1), Value.int .i64 (((runDecode d1).1).2.1), Value.slice q19_0_A2 ((((runDecode d1).1).2.2).length) (q19_0_c2)]) (show Ow TRun _ _ ((runDecode d1).1) from (mkO_Run (((runDecode d1).1).1) (((runDecode d1).1).2.1) (((runDecode d1).1).2.2) (Seps.self hg73 (List.Sublist.cons _ (List.Sublist.cons_cons _ List.Sublist.slnil))) bdk bdk (OwnL.ow (Ow.ownl q19_0_2 rfl mnil) rfl))) OwAs.nil) rfl rfl
                  refine VO.gather (l := [mone g68 (.cells [Value.int .i64 (((runDecode d1).1).1), Value.int .i64 (((runDecode d1).1).2.1), Value.slice q24_0_A2 ((((runDecode d1).1).2.2).length) (q24_0_c2)].toArray 32 (0, 0)), q24_0_n2]) 176 [169, 126] rfl (fun hg75 => ?_)
                  have ho75 : Ow (.sl TRun) (muns [mone g68 (.cells [Value.int .i64 (((runDecode d1).1).1), Value.int .i64 (((runDecode d1).1).2.1), Value.slice q24_0_A2 ((((runDecode d1).1).2.2).length) (q24_0_c2)].toArray 32 (0, 0)), q24_0_n2]) [Value.slice (some ⟨g68, 0, none⟩) (1) (1)] [((runDecode d1).1)] := Ow.lit 1 (Seps.grp1 (ls := [[q24_0_n2]]) hg75) (OwAs.cons (m := muns [q24_0_n2]) (c1 := [Value.int .i64 (((runDecode d1).1).1), Value.int .i64 (((runDecode d1).1).2.1), Value.slice q24_0_A2 ((((runDecode d1).1).2.2).length) (q24_0_c2)]) (show Ow TRun _ _ ((runDecode d1).1) from (mkO_Run (((runDecode d1).1).1) (((runDecode d1).1).2.1) (((runDecode d1).1).2.2) (Seps.self hg75 (List.Sublist.cons _ (List.Sublist.cons_cons _ List.Sublist.slnil))) bdk bdk (OwnL.ow (Ow.ownl q24_0_2 rfl mnil) rfl))) OwAs.nil) rfl rfl
                  refine VO.gcallN 172 rfl ⟨_, rfl, rfl⟩ fnOk23 rfl (fun W hW => SameRuns_ok W (Ow.rd ho73 (hW.at (i := 174) rfl)) (Ow.rd ho75 (hW.at (i := 176) rfl))) (fun v72 m72 hv72 => ?_)
                  subst hv72
                  refine VO.parts 174 [171, 121] rfl hg73 ?_
                  refine VO.parts 176 [169, 126] rfl hg75 ?_
                  refine VO.gy rfl ⟨_, rfl, rfl⟩ (.notD rfl) ?_
                  refine VO.y rfl (.pF rfl rfl) ?_
                  refine VO.kp [126, 121, 134, 132, 128, 123, 116, 114, 112, 111, 108, 107, 102, 0] [(126, q24_0_n2), (121, q19_0_n2), (134, mone g33 (.cells [Value.int .i64 (((runDecode d1).1).1), Value.int .i64 (((runDecode d1).1).2.1), Value.slice q30_0_A2 ((((runDecode d1).1).2.2).length) (q30_0_c2)].toArray 32 (0, 0))), (132, q30_0_n2), (128, mone g27 (.cells [Value.int .i64 (((runDecode d1).1).1), Value.int .i64 (((runDecode d1).1).2.1), Value.slice q24_0_A2 ((((runDecode d1).1).2.2).length) (q24_0_c2)].toArray 32 (0, 0))), (123, mone g22 (.cells [Value.int .i64 (((runDecode d1).1).1), Value.int .i64 (((runDecode d1).1).2.1), Value.slice q19_0_A2 ((((runDecode d1).1).2.2).length) (q19_0_c2)].toArray 32 (0, 0))), (116, m16), (114, m14), (112, m12), (111, mone g10 (.cells [Value.int .i64 (d0.1), Value.int .i64 (d0.2.1), Value.slice A7_0 (d0.2.2.length) (c7_0)].toArray 32 (0, 0))), (108, m8), (107, m7), (102, mone g1 (.cells [Value.int .i64 (d0.1), Value.int .i64 (d0.2.1), Value.slice p0_A2 (d0.2.2.length) (p0_c2)].toArray 32 (0, 0))), (0, wm W)] ?_
                  refine VO.k20 0 1 2 4 5 6 7 8 9 10 11 12 14 15 16 17 18 21 36 116 ?_
                  refine outN ?_
                  refine VC.cond rfl (fun hc77 => ?_) (fun hc77 => ?_)
                  · -- TFFFFFF1T
                    exact absurd rfl hc77
                  · -- TFFFFFF1F
                    refine VC.skip ?_
                    refine outN ?_
                    refine VC.rs ?_
                    refine VO.mv ?_
                    refine VO.y rfl (.fa rfl tst32 rfl) ?_
                    refine VO.y rfl (.ld1 102 rfl tk30 rfl (cellsAt_one rfl rfl)) ?_
                    refine VO.callN 178 rfl fnOk24 rfl (fun W hW => KeptOps_ok W (OwnL.rd (Ow.ownl f7_0 rfl mnil) (hW.at (i := 107) rfl) (mle_nil _)) (Rd.mono p0_2 (hW.at (i := 0) rfl)) bd) (fun v78 m78 hv78 => ?_)
                    subst hv78
                    refine VO.mv ?_
                    refine VO.dec (t := 121) rfl (fun hc79 => ?_) (fun hc79 => ?_)
                    · -- TFFFFFF1FT
                      refine VO.gy rfl ⟨_, rfl, rfl⟩ (.mv rfl) ?_
                      refine VO.gy rfl ⟨_, rfl, rfl⟩ (.mv rfl) ?_
                      refine VO.gcallN 180 rfl ⟨_, rfl, rfl⟩ fnOk25 rfl (fun W hW => KeptBytes_ok W (OwnL.rd (Ow.ownl f8_0 rfl mnil) (hW.at (i := 108) rfl) (mle_nil _)) (Rd.mono h1 (hW.at (i := 0) rfl)) bd) (fun v80 m80 hv80 => ?_)
                      subst hv80
                      refine VO.y rfl (.pT rfl rfl) ?_
                      refine VO.mv ?_
                      refine VO.dec (t := 126) rfl (fun hc81 => ?_) (fun hc81 => ?_)
                      · -- TFFFFFF1FTT
                        refine VO.gy rfl ⟨_, rfl, rfl⟩ (.mv rfl) ?_
                        refine VO.gy rfl ⟨_, rfl, rfl⟩ (.mv rfl) ?_
                        refine VO.gbsl (cs := [Value.slice A12_0 (((runEncode d0).1).length) (c12_0), Value.slice A16_0 (((runEncode d0).1).length) (c16_0)]) 183 rfl ⟨_, rfl, rfl⟩ rfl tsl50 tz38 rfl rfl (fun g82 => ?_)
                        refine VO.gather (l := [mone g82 (.cells [Value.slice A12_0 (((runEncode d0).1).length) (c12_0), Value.slice A16_0 (((runEncode d0).1).length) (c16_0)].toArray 38 (0, 0)), m12, m16]) 186 [183, 112, 116] rfl (fun hg85 => ?_)
                        have ho85 : Ow (.sl (.sl .byte)) (muns [mone g82 (.cells [Value.slice A12_0 (((runEncode d0).1).length) (c12_0), Value.slice A16_0 (((runEncode d0).1).length) (c16_0)].toArray 38 (0, 0)), m12, m16]) [Value.slice (some ⟨g82, 0, none⟩) (2) (2)] [(runEncode d0).1, (runEncode d0).1] := Ow.lit 2 (Seps.grp1 (ls := [[m12], [m16]]) hg85) (OwAs.cons (m := muns [m12]) (c1 := [Value.slice A12_0 (((runEncode d0).1).length) (c12_0)]) (Ow.up (OwnL.ow (Ow.ownl f12_0 rfl mnil) rfl) ((Seps.self hg85 (List.Sublist.cons _ (List.Sublist.cons_cons _ (List.Sublist.cons _ List.Sublist.slnil)))).1 _ (.head _))) (OwAs.cons (m := muns [m16]) (c1 := [Value.slice A16_0 (((runEncode d0).1).length) (c16_0)]) (Ow.up (OwnL.ow (Ow.ownl f16_0 rfl mnil) rfl) ((Seps.self hg85 (List.Sublist.cons _ (List.Sublist.cons _ (List.Sublist.cons_cons _ List.Sublist.slnil)))).1 _ (.head _))) OwAs.nil)) rfl rfl
                        refine VO.gcall 186 rfl ⟨_, rfl, rfl⟩ fnOk26 rfl rfl (fun W hW => ApartBytes_ok W (hW.at (i := 186) rfl) ho85 bd (by exact two_runE d0)) (fun v84 m84 hv84 => ?_)
                        subst hv84
                        refine VO.y rfl (.pT rfl rfl) ?_
                        refine VO.mv ?_
                        refine VO.gy rfl ⟨_, rfl, rfl⟩ (.fa rfl tst32 rfl) ?_
                        refine VO.gy rfl ⟨_, rfl, rfl⟩ (.ld1 123 rfl tk30 rfl (cellsAt_one rfl rfl)) ?_
                        refine VO.gy rfl ⟨_, rfl, rfl⟩ (.fa rfl tst32 rfl) ?_
                        refine VO.gy rfl ⟨_, rfl, rfl⟩ (.ld1 134 rfl tk30 rfl (cellsAt_one rfl rfl)) ?_
                        refine VO.gbsl (cs := [Value.slice q19_0_A2 ((((runDecode d1).1).2.2).length) (q19_0_c2), Value.slice q30_0_A2 ((((runDecode d1).1).2.2).length) (q30_0_c2)]) 188 rfl ⟨_, rfl, rfl⟩ rfl tsl52 tz30 rfl rfl (fun g87 => ?_)
                        refine VO.gather (l := [mone g87 (.cells [Value.slice q19_0_A2 ((((runDecode d1).1).2.2).length) (q19_0_c2), Value.slice q30_0_A2 ((((runDecode d1).1).2.2).length) (q30_0_c2)].toArray 30 (0, 0)), q19_0_n2, q30_0_n2]) 191 [188, 121, 132] rfl (fun hg90 => ?_)
                        have ho90 : Ow (.sl (.sl TOp)) (muns [mone g87 (.cells [Value.slice q19_0_A2 ((((runDecode d1).1).2.2).length) (q19_0_c2), Value.slice q30_0_A2 ((((runDecode d1).1).2.2).length) (q30_0_c2)].toArray 30 (0, 0)), q19_0_n2, q30_0_n2]) [Value.slice (some ⟨g87, 0, none⟩) (2) (2)] [((runDecode d1).1).2.2, ((runDecode d1).1).2.2] := Ow.lit 2 (Seps.grp1 (ls := [[q19_0_n2], [q30_0_n2]]) hg90) (OwAs.cons (m := muns [q19_0_n2]) (c1 := [Value.slice q19_0_A2 ((((runDecode d1).1).2.2).length) (q19_0_c2)]) (Ow.up (OwnL.ow (Ow.ownl q19_0_2 rfl mnil) rfl) ((Seps.self hg90 (List.Sublist.cons _ (List.Sublist.cons_cons _ (List.Sublist.cons _ List.Sublist.slnil)))).1 _ (.head _))) (OwAs.cons (m := muns [q30_0_n2]) (c1 := [Value.slice q30_0_A2 ((((runDecode d1).1).2.2).length) (q30_0_c2)]) (Ow.up (OwnL.ow (Ow.ownl q30_0_2 rfl mnil) rfl) ((Seps.self hg90 (List.Sublist.cons _ (List.Sublist.cons _ (List.Sublist.cons_cons _ List.Sublist.slnil)))).1 _ (.head _))) OwAs.nil)) rfl rfl
                        refine VO.gcall 191 rfl ⟨_, rfl, rfl⟩ fnOk27 rfl rfl (fun W hW => ApartOps_ok W (hW.at (i := 191) rfl) ho90 bd (by exact two_runD d1)) (fun v89 m89 hv89 => ?_)
                        subst hv89
                        refine VO.y rfl (.pT rfl rfl) ?_
                        refine VO.as ?_
                        refine VO.k20 0 1 2 4 5 6 7 8 9 10 11 12 14 15 16 17 18 21 36 116 ?_
                        refine VC.ret ?_
                        refine ⟨_, _, res_run (rs := [.tmp 4]) rfl (.tmp rfl .nil), fun W_ hI => out_of (l := []) hI [] rfl rfl (mle_refl _) (fun hS_ => ?_)⟩
                        dsimp only [packV]
                        all_goals (first | rfl | (rfl))
                      · -- TFFFFFF1FTF
                        exact absurd rfl hc81
                    · -- TFFFFFF1FF
                      exact absurd rfl hc79
  · -- F
    refine VO.gN ?_
    refine VO.gN ?_
    refine VO.gN ?_
    refine VO.gN ?_
    refine VO.y rfl (.pF rfl rfl) ?_
    refine VO.mv ?_
    refine VO.gy rfl ⟨_, rfl, rfl⟩ (.mv rfl) ?_
    refine VO.gy rfl ⟨_, rfl, rfl⟩ (.lenS rfl tsl38) ?_
    refine VO.gy rfl ⟨_, rfl, rfl⟩ (.gtr rfl rfl) ?_
    refine VO.y rfl (.pF rfl rfl) ?_
    refine VO.kp [102, 0] [(102, mone g1 (.cells [Value.int .i64 (d0.1), Value.int .i64 (d0.2.1), Value.slice p0_A2 (d0.2.2.length) (p0_c2)].toArray 32 (0, 0))), (0, wm W)] ?_
    refine VO.k6 0 1 2 4 21 36 ?_
    refine VC.cond rfl (fun hc92 => ?_) (fun hc92 => ?_)
    · -- FT
      refine VC.rs ?_
      refine VO.as ?_
      refine VO.k6 0 1 2 4 21 36 ?_
      refine VC.ret ?_
      refine outR ?_
      refine ⟨_, _, res_run (rs := [.tmp 4]) rfl (.tmp rfl .nil), fun W_ hI => out_of (l := []) hI [] rfl rfl (mle_refl _) (fun hS_ => ?_)⟩
      dsimp only [packV]
      all_goals (first | rfl | (rfl))
    · -- FF
      refine VC.skip ?_
      refine outN ?_
      refine VC.rs ?_
      refine VO.y rfl (.fa rfl tst32 rfl) ?_
      refine VO.y rfl (.ld1 102 rfl tk30 rfl (cellsAt_one rfl rfl)) ?_
      refine VO.callN 193 rfl fnOk15 rfl (fun W hW => LentOps_ok W (Rd.mono p0_2 (hW.at (i := 0) rfl)) bd) (fun v93 m93 hv93 => ?_)
      obtain ⟨s93_0, rfl, f93_0⟩ := hv93
      obtain ⟨A93_0, c93_0, eq93_0, l93_0, k93_0⟩ := f93_0.slice
      subst eq93_0
      simp only [maxLen] at k93_0
      refine VO.mv ?_
      refine VO.callN 194 rfl fnOk16 rfl (fun W hW => LentBytes_ok W (Rd.mono h1 (hW.at (i := 0) rfl)) bd) (fun v94 m94 hv94 => ?_)
      obtain ⟨s94_0, rfl, f94_0⟩ := hv94
      obtain ⟨A94_0, c94_0, eq94_0, l94_0, k94_0⟩ := f94_0.slice
      subst eq94_0
      simp only [maxLen] at k94_0
      refine VO.as ?_
      refine VO.as ?_
      refine VO.k8 0 1 2 4 5 6 21 36 ?_
      refine VC.seq ?_
      refine VC.regD _ 11 [(0, true), (1, true), (2, true), (3, true), (4, true), (5, true), (6, true), (7, true), (8, true), (9, true), (10, false)] follows (by kernel_rfl) (fun _ h => h.sub [194, 193, 102, 0]) ?_
      refine VD.y rfl rfl (.inl rfl) (.fa rfl tst32 rfl) ?_
      refine VD.y rfl rfl (.inl rfl) (.ld1 102 rfl tk3 rfl (cellsAt_one rfl rfl)) ?_
      refine VD.y rfl rfl (.inl rfl) (.fa rfl tst32 rfl) ?_
      refine VD.y rfl rfl (.inl rfl) (.ld1 102 rfl tk3 rfl (cellsAt_one rfl rfl)) ?_
      refine VD.y rfl rfl (.inl rfl) (.mv rfl) ?_
      refine VD.y rfl rfl (.inl rfl) (.fa rfl tst32 rfl) ?_
      refine VD.y rfl rfl (.inl rfl) (.ld1 102 rfl tk30 rfl (cellsAt_one rfl rfl)) ?_
      refine VD.y rfl rfl (.inl rfl) (.lenS rfl tsl30) ?_
      have hs95 := (OwnL.rd (Ow.ownl f93_0 rfl mnil) (mle_refl _) (mle_nil _)).pre (j := d0.2.2.length) bd
      rw [List.take_left] at hs95
      refine VD.y rfl rfl (.inl rfl) (.slHI d0.2.2.length rfl rfl tsl30 rfl bd) ?_
      refine VD.y rfl rfl (.inl rfl) (.bst (cs := [Value.int .i64 (d0.1), Value.int .i64 (d0.2.1), Value.slice A93_0 (d0.2.2.length) (c93_0)]) rfl tst32 tz32 rfl) ?_
      refine VD.alloc 197 rfl rfl tz32 (fun _ _ h => h.sub [194, 193, 102, 0]) (fun g96 => ?_)
      refine VD.nil rfl ?_ rfl
      refine VO.store (k := 3) (c' := [Value.int .i64 (d0.1), Value.int .i64 (d0.2.1), Value.slice A93_0 (d0.2.2.length) (c93_0)]) 197 rfl rfl (.inl tk32) rfl rfl rfl rfl rfl ?_
      refine VO.k9 0 1 2 4 5 6 7 21 36 ?_
      refine outN ?_
      refine VC.rs ?_
      refine VO.y rfl (.ldA 197 rfl tk32 rfl (cellsAt_one rfl rfl)) ?_
      refine VO.callN 198 rfl fnOk17 rfl (fun W hW => runEncode_ok W (show Rd TRun _ _ d0 from (mk_Run (m := wm W) d0.1 d0.2.1 d0.2.2 bdk bdk (OwnL.rd (by have h_ := ((Ow.ownl f93_0 rfl mnil).pre (j := d0.2.2.length) bd); rw [List.take_left] at h_; exact h_) (hW.at (i := 193) rfl) (mle_nil _))))) (fun v98 m98 hv98 => ?_)
      obtain ⟨s98_0, rfl, f98_0⟩ := hv98
      have hfa99 := runEncode_len d0
      obtain ⟨A98_0, c98_0, eq98_0, l98_0, k98_0⟩ := f98_0.slice
      subst eq98_0
      simp only [maxLen] at k98_0
      refine VO.mv ?_
      refine VO.y rfl (.ext rfl rfl) ?_
      refine VO.y rfl (.ext rfl rfl) ?_
      refine VO.as ?_
      refine VO.as ?_
      refine VO.kp [198, 197, 194, 193, 102, 0] [(198, m98), (197, mone g96 (.cells [Value.int .i64 (d0.1), Value.int .i64 (d0.2.1), Value.slice A93_0 (d0.2.2.length) (c93_0)].toArray 32 (0, 0))), (194, m94), (193, m93), (102, mone g1 (.cells [Value.int .i64 (d0.1), Value.int .i64 (d0.2.1), Value.slice p0_A2 (d0.2.2.length) (p0_c2)].toArray 32 (0, 0))), (0, wm W)] ?_
      refine VO.k11 0 1 2 4 5 6 7 8 9 21 36 ?_
      refine VC.rs ?_
      refine VO.y rfl (.ldA 102 rfl tk32 rfl (cellsAt_one rfl rfl)) ?_
      refine VO.callN 200 rfl fnOk18 rfl (fun W hW => rfEncode_ok W (Rd.mono h0 (hW.at (i := 0) rfl))) (fun v100 m100 hv100 => ?_)
      obtain ⟨s100_0, rfl, f100_0⟩ := hv100
      have hfa101 := runEncode_len d0
      obtain ⟨A100_0, c100_0, eq100_0, l100_0, k100_0⟩ := f100_0.slice
      subst eq100_0
      simp only [maxLen] at k100_0
      refine VO.mv ?_
      refine VO.y rfl (.ext rfl rfl) ?_
      refine VO.y rfl (.ext rfl rfl) ?_
      refine VO.as ?_
      refine VO.as ?_
      refine VO.k13 0 1 2 4 5 6 7 8 9 10 11 21 36 ?_
      refine VC.rs ?_
      refine VO.y rfl (.ldA 197 rfl tk32 rfl (cellsAt_one rfl rfl)) ?_
      refine VO.callN 202 rfl fnOk17 rfl (fun W hW => runEncode_ok W (show Rd TRun _ _ d0 from (mk_Run (m := wm W) d0.1 d0.2.1 d0.2.2 bdk bdk (OwnL.rd (by have h_ := ((Ow.ownl f93_0 rfl mnil).pre (j := d0.2.2.length) bd); rw [List.take_left] at h_; exact h_) (hW.at (i := 193) rfl) (mle_nil _))))) (fun v102 m102 hv102 => ?_)
      obtain ⟨s102_0, rfl, f102_0⟩ := hv102
      have hfa103 := runEncode_len d0
      obtain ⟨A102_0, c102_0, eq102_0, l102_0, k102_0⟩ := f102_0.slice
      subst eq102_0
      simp only [maxLen] at k102_0
      refine VO.mv ?_
      refine VO.y rfl (.ext rfl rfl) ?_
      refine VO.y rfl (.ext rfl rfl) ?_
      refine VO.as ?_
      refine VO.as ?_
      refine VO.k14 0 1 2 4 5 6 7 8 9 10 11 12 21 36 ?_
      refine VC.rs ?_
      refine VO.mv ?_
      refine VO.mv ?_
      refine VO.y rfl (.lenS rfl tsl38) ?_
      have hs104 := (OwnL.rd (Ow.ownl f94_0 rfl mnil) (mle_refl _) (mle_nil _)).pre (j := d1.length) bd
      rw [List.take_left] at hs104
      refine VO.y rfl (.slHI d1.length rfl rfl tsl38 rfl bd) ?_
      refine VO.callN 205 rfl fnOk19 rfl (fun W hW => runDecode_ok W (OwnL.rd (by have h_ := ((Ow.ownl f94_0 rfl mnil).pre (j := d1.length) bd); rw [List.take_left] at h_; exact h_) (hW.at (i := 194) rfl) (mle_nil _))) (fun v105 m105 hv105 => ?_)
      obtain ⟨s105_0, rfl, f105_0⟩ := hv105
      have hfa106 := runDecode_fits d1
      obtain ⟨q105_0_A2, q105_0_c2, q105_0_n2, rfl, q105_0_S, q105_0_0, q105_0_1, q105_0_2⟩ := openO_Run (x0 := ((runDecode d1).1).1) (x1 := ((runDecode d1).1).2.1) (x2 := ((runDecode d1).1).2.2) f105_0
      simp only [inK] at q105_0_0
      simp only [inK] at q105_0_1
      have q105_0_r2 := q105_0_2.rm
      refine VO.inv _ (fun _ h => h.parts (i := 205) rfl q105_0_S [207]) ?_
      refine VO.mv ?_
      refine VO.y rfl (.ext rfl rfl) ?_
      refine VO.y rfl (.ext rfl rfl) ?_
      refine VO.alloc 209 rfl tz32 (fun g108 => ?_)
      refine VO.store (k := 3) (c' := [Value.int .i64 (((runDecode d1).1).1), Value.int .i64 (((runDecode d1).1).2.1), Value.slice q105_0_A2 ((((runDecode d1).1).2.2).length) (q105_0_c2)]) 209 rfl rfl (.inl tk32) rfl rfl rfl rfl rfl ?_
      refine VO.as ?_
      refine VO.kp [209, 207, 202, 200, 198, 197, 194, 193, 102, 0] [(209, mone g108 (.cells [Value.int .i64 (((runDecode d1).1).1), Value.int .i64 (((runDecode d1).1).2.1), Value.slice q105_0_A2 ((((runDecode d1).1).2.2).length) (q105_0_c2)].toArray 32 (0, 0))), (207, q105_0_n2), (202, m102), (200, m100), (198, m98), (197, mone g96 (.cells [Value.int .i64 (d0.1), Value.int .i64 (d0.2.1), Value.slice A93_0 (d0.2.2.length) (c93_0)].toArray 32 (0, 0))), (194, m94), (193, m93), (102, mone g1 (.cells [Value.int .i64 (d0.1), Value.int .i64 (d0.2.1), Value.slice p0_A2 (d0.2.2.length) (p0_c2)].toArray 32 (0, 0))), (0, wm W)] ?_
      refine VO.k16 0 1 2 4 5 6 7 8 9 10 11 12 14 15 21 36 ?_
      refine VC.rs ?_
      refine VO.mv ?_
      refine VO.callN 210 rfl fnOk20 rfl (fun W hW => rfDecode_ok W (Rd.mono h1 (hW.at (i := 0) rfl)) bd) (fun v110 m110 hv110 => ?_)
      obtain ⟨s110_0, rfl, f110_0⟩ := hv110
      have hfa111 := runDecode_fits d1
      obtain ⟨q110_0_A2, q110_0_c2, q110_0_n2, rfl, q110_0_S, q110_0_0, q110_0_1, q110_0_2⟩ := openO_Run (x0 := ((runDecode d1).1).1) (x1 := ((runDecode d1).1).2.1) (x2 := ((runDecode d1).1).2.2) f110_0
      simp only [inK] at q110_0_0
      simp only [inK] at q110_0_1
      have q110_0_r2 := q110_0_2.rm
      refine VO.inv _ (fun _ h => h.parts (i := 210) rfl q110_0_S [212]) ?_
      refine VO.mv ?_
      refine VO.y rfl (.ext rfl rfl) ?_
      refine VO.y rfl (.ext rfl rfl) ?_
      refine VO.alloc 214 rfl tz32 (fun g113 => ?_)
      refine VO.store (k := 3) (c' := [Value.int .i64 (((runDecode d1).1).1), Value.int .i64 (((runDecode d1).1).2.1), Value.slice q110_0_A2 ((((runDecode d1).1).2.2).length) (q110_0_c2)]) 214 rfl rfl (.inl tk32) rfl rfl rfl rfl rfl ?_
      refine VO.as ?_
      refine VO.k18 0 1 2 4 5 6 7 8 9 10 11 12 14 15 16 17 21 36 ?_
      refine VC.rs ?_
      refine VO.mv ?_
      refine VO.mv ?_
      refine VO.y rfl (.lenS rfl tsl38) ?_
      have hs115 := (OwnL.rd (Ow.ownl f94_0 rfl mnil) (mle_refl _) (mle_nil _)).pre (j := d1.length) bd
      rw [List.take_left] at hs115
      refine VO.y rfl (.slHI d1.length rfl rfl tsl38 rfl bd) ?_
      refine VO.callN 216 rfl fnOk19 rfl (fun W hW => runDecode_ok W (OwnL.rd (by have h_ := ((Ow.ownl f94_0 rfl mnil).pre (j := d1.length) bd); rw [List.take_left] at h_; exact h_) (hW.at (i := 194) rfl) (mle_nil _))) (fun v116 m116 hv116 => ?_)
      obtain ⟨s116_0, rfl, f116_0⟩ := hv116
      have hfa117 := runDecode_fits d1
      obtain ⟨q116_0_A2, q116_0_c2, q116_0_n2, rfl, q116_0_S, q116_0_0, q116_0_1, q116_0_2⟩ := openO_Run (x0 := ((runDecode d1).1).1) (x1 := ((runDecode d1).1).2.1) (x2 := ((runDecode d1).1).2.2) f116_0
      simp only [inK] at q116_0_0
      simp only [inK] at q116_0_1
      have q116_0_r2 := q116_0_2.rm
      refine VO.inv _ (fun _ h => h.parts (i := 216) rfl q116_0_S [218]) ?_
      refine VO.mv ?_
      refine VO.y rfl (.ext rfl rfl) ?_
      refine VO.y rfl (.ext rfl rfl) ?_
      refine VO.alloc 220 rfl tz32 (fun g119 => ?_)
      refine VO.store (k := 3) (c' := [Value.int .i64 (((runDecode d1).1).1), Value.int .i64 (((runDecode d1).1).2.1), Value.slice q116_0_A2 ((((runDecode d1).1).2.2).length) (q116_0_c2)]) 220 rfl rfl (.inl tk32) rfl rfl rfl rfl rfl ?_
      refine VO.as ?_
      refine VO.k19 0 1 2 4 5 6 7 8 9 10 11 12 14 15 16 17 18 21 36 ?_
      refine VC.seq ?_
      refine VC.seq ?_
      refine VC.regE [(220, mone g119 (.cells [Value.int .i64 (((runDecode d1).1).1), Value.int .i64 (((runDecode d1).1).2.1), Value.slice q116_0_A2 ((((runDecode d1).1).2.2).length) (q116_0_c2)].toArray 32 (0, 0))), (218, q116_0_n2), (214, mone g113 (.cells [Value.int .i64 (((runDecode d1).1).1), Value.int .i64 (((runDecode d1).1).2.1), Value.slice q110_0_A2 ((((runDecode d1).1).2.2).length) (q110_0_c2)].toArray 32 (0, 0))), (212, q110_0_n2), (209, mone g108 (.cells [Value.int .i64 (((runDecode d1).1).1), Value.int .i64 (((runDecode d1).1).2.1), Value.slice q105_0_A2 ((((runDecode d1).1).2.2).length) (q105_0_c2)].toArray 32 (0, 0))), (207, q105_0_n2), (202, m102), (200, m100), (198, m98), (197, mone g96 (.cells [Value.int .i64 (d0.1), Value.int .i64 (d0.2.1), Value.slice A93_0 (d0.2.2.length) (c93_0)].toArray 32 (0, 0))), (194, m94), (193, m93), (102, mone g1 (.cells [Value.int .i64 (d0.1), Value.int .i64 (d0.2.1), Value.slice p0_A2 (d0.2.2.length) (p0_c2)].toArray 32 (0, 0))), (0, wm W)] 26 follows (by kernel_rfl) (fun _ h => h.sub [220, 218, 214, 212, 209, 207, 202, 200, 198, 197, 194, 193, 102, 0]) ?_
      refine VE.y 0 rfl rfl (.inl rfl) (by kernel_rfl) (.ldA 197 rfl tk32 rfl (cellsAt_one rfl rfl)) ?_
      refine VE.y 2 rfl rfl (.inl rfl) (by kernel_rfl) (.ldA 102 rfl tk32 rfl (cellsAt_one rfl rfl)) ?_
      refine VE.tree [1] (by kernel_rfl) ⟨?_, trivial⟩
      refine VI.callN 221 rfl rfl (.inl rfl) fnOk14 rfl (fun _ h => Inv.sbK [220, 218, 214, 212, 209, 207, 202, 200, 198, 197, 194, 193, 102, 0] h) (fun W hW => runCheck_ok_ W (show Rd TRun _ _ d0 from (mk_Run (m := wm W) d0.1 d0.2.1 d0.2.2 bdk bdk (OwnL.rd (by have h_ := ((Ow.ownl f93_0 rfl mnil).pre (j := d0.2.2.length) bd); rw [List.take_left] at h_; exact h_) (hW.at (i := 193) rfl) (mle_nil _))))) (fun v121 m121 hv121 => ?_)
      subst hv121
      have hfa122 := runCheck_range d0
      refine VE.tree [3] (by kernel_rfl) ⟨?_, trivial⟩
      refine VI.callN 223 rfl rfl (.inl rfl) fnOk21 rfl (fun _ h => Inv.sbK [220, 218, 214, 212, 209, 207, 202, 200, 198, 197, 194, 193, 102, 0] h) (fun W hW => rfCheck_ok W (Rd.mono h0 (hW.at (i := 0) rfl))) (fun v123 m123 hv123 => ?_)
      subst hv123
      have hfa124 := runCheck_range d0
      refine VE.y 4 rfl rfl (.inl rfl) (by kernel_rfl) (.neq rfl rfl) ?_
      refine VE.y 5 rfl rfl (.inl rfl) (by kernel_rfl) (.mv rfl) ?_
      refine VE.dec (s := 93) rfl (fun hc125 => ?_) (fun hc125 => ?_)
      · -- FFT
        exact absurd rfl hc125
      · -- FFF
        refine VE.y 6 rfl rfl (.inr ⟨_, _, rfl, _, rfl, rfl⟩) (by kernel_rfl) (.mv rfl) ?_
        refine VE.y 7 rfl rfl (.inr ⟨_, _, rfl, _, rfl, rfl⟩) (by kernel_rfl) (.mv rfl) ?_
        refine VE.y 8 rfl rfl (.inr ⟨_, _, rfl, _, rfl, rfl⟩) (by kernel_rfl) (.neq rfl rfl) ?_
        refine VE.y 9 rfl rfl (.inl rfl) (by kernel_rfl) (.pF rfl rfl) ?_
        refine VE.y 10 rfl rfl (.inl rfl) (by kernel_rfl) (.mv rfl) ?_
        refine VE.dec (s := 98) rfl (fun hc126 => ?_) (fun hc126 => ?_)
        · -- FFFT
          exact absurd rfl hc126
        · -- FFFF
          refine VE.y 11 rfl rfl (.inr ⟨_, _, rfl, _, rfl, rfl⟩) (by kernel_rfl) (.mv rfl) ?_
          refine VE.y 12 rfl rfl (.inr ⟨_, _, rfl, _, rfl, rfl⟩) (by kernel_rfl) (.mv rfl) ?_
          refine VE.y 13 rfl rfl (.inr ⟨_, _, rfl, _, rfl, rfl⟩) (by kernel_rfl) (.neq rfl rfl) ?_
          refine VE.y 14 rfl rfl (.inl rfl) (by kernel_rfl) (.pF rfl rfl) ?_
          refine VE.y 15 rfl rfl (.inl rfl) (by kernel_rfl) (.mv rfl) ?_
          refine VE.dec (s := 103) rfl (fun hc127 => ?_) (fun hc127 => ?_)
          · -- FFFFT
            exact absurd rfl hc127
          · -- FFFFF
            refine VE.y 16 rfl rfl (.inr ⟨_, _, rfl, _, rfl, rfl⟩) (by kernel_rfl) (.mv rfl) ?_
            refine VE.y 17 rfl rfl (.inr ⟨_, _, rfl, _, rfl, rfl⟩) (by kernel_rfl) (.mv rfl) ?_
            refine VE.tree [18] (by kernel_rfl) ⟨?_, trivial⟩
            refine VI.callN 228 rfl rfl (.inr ⟨_, _, rfl, _, rfl, rfl⟩) fnOk22 rfl (fun _ h => Inv.sbK [220, 218, 214, 212, 209, 207, 202, 200, 198, 197, 194, 193, 102, 0] h) (fun W hW => SameBytes_ok W (OwnL.rd (Ow.ownl f98_0 rfl mnil) (hW.at (i := 198) rfl) (mle_nil _)) (OwnL.rd (Ow.ownl f100_0 rfl mnil) (hW.at (i := 200) rfl) (mle_nil _))) (fun v128 m128 hv128 => ?_)
            subst hv128
            refine VE.y 19 rfl rfl (.inr ⟨_, _, rfl, _, rfl, rfl⟩) (by kernel_rfl) (.notD rfl) ?_
            refine VE.y 20 rfl rfl (.inl rfl) (by kernel_rfl) (.pF rfl rfl) ?_
            refine VE.y 21 rfl rfl (.inl rfl) (by kernel_rfl) (.mv rfl) ?_
            refine VE.dec (s := 109) rfl (fun hc129 => ?_) (fun hc129 => ?_)
            · -- FFFFFT
              exact absurd rfl hc129
            · -- FFFFFF
              refine VE.y 22 rfl rfl (.inr ⟨_, _, rfl, _, rfl, rfl⟩) (by kernel_rfl) (.ldA 209 rfl tk32 rfl (cellsAt_one rfl rfl)) ?_
              refine VE.y 24 rfl rfl (.inr ⟨_, _, rfl, _, rfl, rfl⟩) (by kernel_rfl) (.ldA 214 rfl tk32 rfl (cellsAt_one rfl rfl)) ?_
              refine VE.tree [23, 25] (by kernel_rfl) ⟨?_, ?_, trivial⟩
              · -- FFFFFF0
                refine VI.gbsl (cs := [Value.int .i64 (((runDecode d1).1).1), Value.int .i64 (((runDecode d1).1).2.1), Value.slice q105_0_A2 ((((runDecode d1).1).2.2).length) (q105_0_c2)]) 231 rfl rfl ⟨_, rfl, rfl⟩ rfl tsl47 tz32 rfl rfl (fun _ h => Inv.sbK [220, 218, 214, 212, 209, 207, 202, 200, 198, 197, 194, 193, 102, 0] h) (fun g130 => ?_)
                refine VE.tree [25] (by kernel_rfl) ⟨?_, trivial⟩
                refine VI.gbsl (cs := [Value.int .i64 (((runDecode d1).1).1), Value.int .i64 (((runDecode d1).1).2.1), Value.slice q110_0_A2 ((((runDecode d1).1).2.2).length) (q110_0_c2)]) 233 rfl rfl ⟨_, rfl, rfl⟩ rfl tsl47 tz32 rfl rfl (fun _ h => Inv.sbK [220, 218, 214, 212, 209, 207, 202, 200, 198, 197, 194, 193, 102, 0] h) (fun g132 => ?_)
                refine VE.nil (by kernel_rfl) rfl ?_ rfl
                refine VO.gather (l := [mone g130 (.cells [Value.int .i64 (((runDecode d1).1).1), Value.int .i64 (((runDecode d1).1).2.1), Value.slice q105_0_A2 ((((runDecode d1).1).2.2).length) (q105_0_c2)].toArray 32 (0, 0)), q105_0_n2]) 236 [231, 207] rfl (fun hg135 => ?_)
                have ho135 : Ow (.sl TRun) (muns [mone g130 (.cells [Value.int .i64 (((runDecode d1).1).1), Value.int .i64 (((runDecode d1).1).2.1), Value.slice q105_0_A2 ((((runDecode d1).1).2.2).length) (q105_0_c2)].toArray 32 (0, 0)), q105_0_n2]) [Value.slice (some ⟨g130, 0, none⟩) (1) (1)] [((runDecode d1).1)] := Ow.lit 1 (Seps.grp1 (ls := [[q105_0_n2]]) hg135) (OwAs.cons (m := muns [q105_0_n2]) (c1 := [Value.int .i64 (((runDecode d1).1).1), Value.int .i64 (((runDecode d1).1).2.1), Value.slice q105_0_A2 ((((runDecode d1).1).2.2).length) (q105_0_c2)]) (show Ow TRun _ _ ((runDecode d1).1) from (mkO_Run (((runDecode d1).1).1) (((runDecode d1).1).2.1) (((runDecode d1).1).2.2) (Seps.self hg135 (List.Sublist.cons _ (List.Sublist.cons_cons _ List.Sublist.slnil))) bdk bdk (OwnL.ow (Ow.ownl q105_0_2 rfl mnil) rfl))) OwAs.nil) rfl rfl
                refine VO.gather (l := [mone g132 (.cells [Value.int .i64 (((runDecode d1).1).1), Value.int .i64 (((runDecode d1).1).2.1), Value.slice q110_0_A2 ((((runDecode d1).1).2.2).length) (q110_0_c2)].toArray 32 (0, 0)), q110_0_n2]) 238 [233, 212] rfl (fun hg137 => ?_)
                have ho137 : Ow (.sl TRun) (muns [mone g132 (.cells [Value.int .i64 (((runDecode d1).1).1), Value.int .i64 (((runDecode d1).1).2.1), Value.slice q110_0_A2 ((((runDecode d1).1).2.2).length) (q110_0_c2)].toArray 32 (0, 0)), q110_0_n2]) [Value.slice (some ⟨g132, 0, none⟩) (1) (1)] [((runDecode d1).1)] := Ow.lit 1 (Seps.grp1 (ls := [[q110_0_n2]]) hg137) (OwAs.cons (m := muns [q110_0_n2]) (c1 := [Value.int .i64 (((runDecode d1).1).1), Value.int .i64 (((runDecode d1).1).2.1), Value.slice q110_0_A2 ((((runDecode d1).1).2.2).length) (q110_0_c2)]) (show Ow TRun _ _ ((runDecode d1).1) from (mkO_Run (((runDecode d1).1).1) (((runDecode d1).1).2.1) (((runDecode d1).1).2.2) (Seps.self hg137 (List.Sublist.cons _ (List.Sublist.cons_cons _ List.Sublist.slnil))) bdk bdk (OwnL.ow (Ow.ownl q110_0_2 rfl mnil) rfl))) OwAs.nil) rfl rfl
                refine VO.gcallN 234 rfl ⟨_, rfl, rfl⟩ fnOk23 rfl (fun W hW => SameRuns_ok W (Ow.rd ho135 (hW.at (i := 236) rfl)) (Ow.rd ho137 (hW.at (i := 238) rfl))) (fun v134 m134 hv134 => ?_)
                subst hv134
                refine VO.parts 236 [231, 207] rfl hg135 ?_
                refine VO.parts 238 [233, 212] rfl hg137 ?_
                refine VO.gy rfl ⟨_, rfl, rfl⟩ (.notD rfl) ?_
                refine VO.y rfl (.pF rfl rfl) ?_
                refine VO.kp [212, 207, 220, 218, 214, 209, 202, 200, 198, 197, 194, 193, 102, 0] [(212, q110_0_n2), (207, q105_0_n2), (220, mone g119 (.cells [Value.int .i64 (((runDecode d1).1).1), Value.int .i64 (((runDecode d1).1).2.1), Value.slice q116_0_A2 ((((runDecode d1).1).2.2).length) (q116_0_c2)].toArray 32 (0, 0))), (218, q116_0_n2), (214, mone g113 (.cells [Value.int .i64 (((runDecode d1).1).1), Value.int .i64 (((runDecode d1).1).2.1), Value.slice q110_0_A2 ((((runDecode d1).1).2.2).length) (q110_0_c2)].toArray 32 (0, 0))), (209, mone g108 (.cells [Value.int .i64 (((runDecode d1).1).1), Value.int .i64 (((runDecode d1).1).2.1), Value.slice q105_0_A2 ((((runDecode d1).1).2.2).length) (q105_0_c2)].toArray 32 (0, 0))), (202, m102), (200, m100), (198, m98), (197, mone g96 (.cells [Value.int .i64 (d0.1), Value.int .i64 (d0.2.1), Value.slice A93_0 (d0.2.2.length) (c93_0)].toArray 32 (0, 0))), (194, m94), (193, m93), (102, mone g1 (.cells [Value.int .i64 (d0.1), Value.int .i64 (d0.2.1), Value.slice p0_A2 (d0.2.2.length) (p0_c2)].toArray 32 (0, 0))), (0, wm W)] ?_
                refine VO.k20 0 1 2 4 5 6 7 8 9 10 11 12 14 15 16 17 18 21 36 116 ?_
                refine outN ?_
                refine VC.cond rfl (fun hc139 => ?_) (fun hc139 => ?_)
                · -- FFFFFF0T
                  exact absurd rfl hc139
                · -- FFFFFF0F
                  refine VC.skip ?_
                  refine outN ?_
                  refine VC.rs ?_
                  refine VO.mv ?_
                  refine VO.y rfl (.fa rfl tst32 rfl) ?_
                  refine VO.y rfl (.ld1 102 rfl tk30 rfl (cellsAt_one rfl rfl)) ?_
                  refine VO.callN 240 rfl fnOk24 rfl (fun W hW => KeptOps_ok W (OwnL.rd (Ow.ownl f93_0 rfl mnil) (hW.at (i := 193) rfl) (mle_nil _)) (Rd.mono p0_2 (hW.at (i := 0) rfl)) bd) (fun v140 m140 hv140 => ?_)
                  subst hv140
                  refine VO.mv ?_
                  refine VO.dec (t := 121) rfl (fun hc141 => ?_) (fun hc141 => ?_)
                  · -- FFFFFF0FT
                    refine VO.gy rfl ⟨_, rfl, rfl⟩ (.mv rfl) ?_
                    refine VO.gy rfl ⟨_, rfl, rfl⟩ (.mv rfl) ?_
                    refine VO.gcallN 242 rfl ⟨_, rfl, rfl⟩ fnOk25 rfl (fun W hW => KeptBytes_ok W (OwnL.rd (Ow.ownl f94_0 rfl mnil) (hW.at (i := 194) rfl) (mle_nil _)) (Rd.mono h1 (hW.at (i := 0) rfl)) bd) (fun v142 m142 hv142 => ?_)
                    subst hv142
                    refine VO.y rfl (.pT rfl rfl) ?_
                    refine VO.mv ?_
                    refine VO.dec (t := 126) rfl (fun hc143 => ?_) (fun hc143 => ?_)
                    · -- FFFFFF0FTT
                      refine VO.gy rfl ⟨_, rfl, rfl⟩ (.mv rfl) ?_
                      refine VO.gy rfl ⟨_, rfl, rfl⟩ (.mv rfl) ?_
                      refine VO.gbsl (cs := [Value.slice A98_0 (((runEncode d0).1).length) (c98_0), Value.slice A102_0 (((runEncode d0).1).length) (c102_0)]) 245 rfl ⟨_, rfl, rfl⟩ rfl tsl50 tz38 rfl rfl (fun g144 => ?_)
                      refine VO.gather (l := [mone g144 (.cells [Value.slice A98_0 (((runEncode d0).1).length) (c98_0), Value.slice A102_0 (((runEncode d0).1).length) (c102_0)].toArray 38 (0, 0)), m98, m102]) 248 [245, 198, 202] rfl (fun hg147 => ?_)
                      have ho147 : Ow (.sl (.sl .byte)) (muns [mone g144 (.cells [Value.slice A98_0 (((runEncode d0).1).length) (c98_0), Value.slice A102_0 (((runEncode d0).1).length) (c102_0)].toArray 38 (0, 0)), m98, m102]) [Value.slice (some ⟨g144, 0, none⟩) (2) (2)] [(runEncode d0).1, (runEncode d0).1] := Ow.lit 2 (Seps.grp1 (ls := [[m98], [m102]]) hg147) (OwAs.cons (m := muns [m98]) (c1 := [Value.slice A98_0 (((runEncode d0).1).length) (c98_0)]) (Ow.up (OwnL.ow (Ow.ownl f98_0 rfl mnil) rfl) ((Seps.self hg147 (List.Sublist.cons _ (List.Sublist.cons_cons _ (List.Sublist.cons _ List.Sublist.slnil)))).1 _ (.head _))) (OwAs.cons (m := muns [m102]) (c1 := [Value.slice A102_0 (((runEncode d0).1).length) (c102_0)]) (Ow.up (OwnL.ow (Ow.ownl f102_0 rfl mnil) rfl) ((Seps.self hg147 (List.Sublist.cons _ (List.Sublist.cons _ (List.Sublist.cons_cons _ List.Sublist.slnil)))).1 _ (.head _))) OwAs.nil)) rfl rfl
                      refine VO.gcall 248 rfl ⟨_, rfl, rfl⟩ fnOk26 rfl rfl (fun W hW => ApartBytes_ok W (hW.at (i := 248) rfl) ho147 bd (by exact two_runE d0)) (fun v146 m146 hv146 => ?_)
                      subst hv146
                      refine VO.y rfl (.pT rfl rfl) ?_
                      refine VO.mv ?_
                      refine VO.gy rfl ⟨_, rfl, rfl⟩ (.fa rfl tst32 rfl) ?_
                      refine VO.gy rfl ⟨_, rfl, rfl⟩ (.ld1 209 rfl tk30 rfl (cellsAt_one rfl rfl)) ?_
                      refine VO.gy rfl ⟨_, rfl, rfl⟩ (.fa rfl tst32 rfl) ?_
                      refine VO.gy rfl ⟨_, rfl, rfl⟩ (.ld1 220 rfl tk30 rfl (cellsAt_one rfl rfl)) ?_
                      refine VO.gbsl (cs := [Value.slice q105_0_A2 ((((runDecode d1).1).2.2).length) (q105_0_c2), Value.slice q116_0_A2 ((((runDecode d1).1).2.2).length) (q116_0_c2)]) 250 rfl ⟨_, rfl, rfl⟩ rfl tsl52 tz30 rfl rfl (fun g149 => ?_)
                      refine VO.gather (l := [mone g149 (.cells [Value.slice q105_0_A2 ((((runDecode d1).1).2.2).length) (q105_0_c2), Value.slice q116_0_A2 ((((runDecode d1).1).2.2).length) (q116_0_c2)].toArray 30 (0, 0)), q105_0_n2, q116_0_n2]) 253 [250, 207, 218] rfl (fun hg152 => ?_)
                      have ho152 : Ow (.sl (.sl TOp)) (muns [mone g149 (.cells [Value.slice q105_0_A2 ((((runDecode d1).1).2.2).length) (q105_0_c2), Value.slice q116_0_A2 ((((runDecode d1).1).2.2).length) (q116_0_c2)].toArray 30 (0, 0)), q105_0_n2, q116_0_n2]) [Value.slice (some ⟨g149, 0, none⟩) (2) (2)] [((runDecode d1).1).2.2, ((runDecode d1).1).2.2] := Ow.lit 2 (Seps.grp1 (ls := [[q105_0_n2], [q116_0_n2]]) hg152) (OwAs.cons (m := muns [q105_0_n2]) (c1 := [Value.slice q105_0_A2 ((((runDecode d1).1).2.2).length) (q105_0_c2)]) (Ow.up (OwnL.ow (Ow.ownl q105_0_2 rfl mnil) rfl) ((Seps.self hg152 (List.Sublist.cons _ (List.Sublist.cons_cons _ (List.Sublist.cons _ List.Sublist.slnil)))).1 _ (.head _))) (OwAs.cons (m := muns [q116_0_n2]) (c1 := [Value.slice q116_0_A2 ((((runDecode d1).1).2.2).length) (q116_0_c2)]) (Ow.up (OwnL.ow (Ow.ownl q116_0_2 rfl mnil) rfl) ((Seps.self hg152 (List.Sublist.cons _ (List.Sublist.cons _ (List.Sublist.cons_cons _ List.Sublist.slnil)))).1 _ (.head _))) OwAs.nil)) rfl rfl
                      refine VO.gcall 253 rfl ⟨_, rfl, rfl⟩ fnOk27 rfl rfl (fun W hW => ApartOps_ok W (hW.at (i := 253) rfl) ho152 bd (by exact two_runD d1)) (fun v151 m151 hv151 => ?_)
                      subst hv151
                      refine VO.y rfl (.pT rfl rfl) ?_
                      refine VO.as ?_
                      refine VO.k20 0 1 2 4 5 6 7 8 9 10 11 12 14 15 16 17 18 21 36 116 ?_
                      refine VC.ret ?_
                      refine ⟨_, _, res_run (rs := [.tmp 4]) rfl (.tmp rfl .nil), fun W_ hI => out_of (l := []) hI [] rfl rfl (mle_refl _) (fun hS_ => ?_)⟩
                      dsimp only [packV]
                      all_goals (first | rfl | (rfl))
                    · -- FFFFFF0FTF
                      exact absurd rfl hc143
                  · -- FFFFFF0FF
                    exact absurd rfl hc141
              · -- FFFFFF1
                refine VI.gbsl (cs := [Value.int .i64 (((runDecode d1).1).1), Value.int .i64 (((runDecode d1).1).2.1), Value.slice q110_0_A2 ((((runDecode d1).1).2.2).length) (q110_0_c2)]) 255 rfl rfl ⟨_, rfl, rfl⟩ rfl tsl47 tz32 rfl rfl (fun _ h => Inv.sbK [220, 218, 214, 212, 209, 207, 202, 200, 198, 197, 194, 193, 102, 0] h) (fun g154 => ?_)
                refine VE.tree [23] (by kernel_rfl) ⟨?_, trivial⟩
                refine VI.gbsl (cs := [Value.int .i64 (((runDecode d1).1).1), Value.int .i64 (((runDecode d1).1).2.1), Value.slice q105_0_A2 ((((runDecode d1).1).2.2).length) (q105_0_c2)]) 257 rfl rfl ⟨_, rfl, rfl⟩ rfl tsl47 tz32 rfl rfl (fun _ h => Inv.sbK [220, 218, 214, 212, 209, 207, 202, 200, 198, 197, 194, 193, 102, 0] h) (fun g156 => ?_)
                refine VE.nil (by kernel_rfl) rfl ?_ rfl
                refine VO.gather (l := [mone g156 (.cells [Value.int .i64 (((runDecode d1).1).1), Value.int .i64 (((runDecode d1).1).2.1), Value.slice q105_0_A2 ((((runDecode d1).1).2.2).length) (q105_0_c2)].toArray 32 (0, 0)), q105_0_n2]) 260 [257, 207] rfl (fun hg159 => ?_)
                have ho159 : Ow (.sl TRun) (muns [mone g156 (.cells [Value.int .i64 (((runDecode d1).1).1), Value.int .i64 (((runDecode d1).1).2.1), Value.slice q105_0_A2 ((((runDecode d1).1).2.2).length) (q105_0_c2)].toArray 32 (0, 0)), q105_0_n2]) [Value.slice (some ⟨g156, 0, none⟩) (1) (1)] [((runDecode d1).1)] := Ow.lit 1 (Seps.grp1 (ls := [[q105_0_n2]]) hg159) (OwAs.cons (m := muns [q105_0_n2]) (c1 := [Value.int .i64 (((runDecode d1).1).1), Value.int .i64 (((runDecode d1).1).2.1), Value.slice q105_0_A2 ((((runDecode d1).1).2.2).length) (q105_0_c2)]) (show Ow TRun _ _ ((runDecode d1).1) from (mkO_Run (((runDecode d1).1).1) (((runDecode d1).1).2.1) (((runDecode d1).1).2.2) (Seps.self hg159 (List.Sublist.cons _ (List.Sublist.cons_cons _ List.Sublist.slnil))) bdk bdk (OwnL.ow (Ow.ownl q105_0_2 rfl mnil) rfl))) OwAs.nil) rfl rfl
                refine VO.gather (l := [mone g154 (.cells [Value.int .i64 (((runDecode d1).1).1), Value.int .i64 (((runDecode d1).1).2.1), Value.slice q110_0_A2 ((((runDecode d1).1).2.2).length) (q110_0_c2)].toArray 32 (0, 0)), q110_0_n2]) 262 [255, 212] rfl (fun hg161 => ?_)
                have ho161 : Ow (.sl TRun) (muns [mone g154 (.cells [Value.int .i64 (((runDecode d1).1).1), Value.int .i64 (((runDecode d1).1).2.1), Value.slice q110_0_A2 ((((runDecode d1).1).2.2).length) (q110_0_c2)].toArray 32 (0, 0)), q110_0_n2]) [Value.slice (some ⟨g154, 0, none⟩) (1) (1)] [((runDecode d1).1)] := Ow.lit 1 (Seps.grp1 (ls := [[q110_0_n2]]) hg161) (OwAs.cons (m := muns [q110_0_n2]) (c1 := [Value.int .i64 (((runDecode d1).1).1), Value.int .i64 (((runDecode d1).1).2.1), Value.slice q110_0_A2 ((((runDecode d1).1).2.2).length) (q110_0_c2)]) (show Ow TRun _ _ ((runDecode d1).1) from (mkO_Run (((runDecode d1).1).1) (((runDecode d1).1).2.1) (((runDecode d1).1).2.2) (Seps.self hg161 (List.Sublist.cons _ (List.Sublist.cons_cons _ List.Sublist.slnil))) bdk bdk (OwnL.ow (Ow.ownl q110_0_2 rfl mnil) rfl))) OwAs.nil) rfl rfl
                refine VO.gcallN 258 rfl ⟨_, rfl, rfl⟩ fnOk23 rfl (fun W hW => SameRuns_ok W (Ow.rd ho159 (hW.at (i := 260) rfl)) (Ow.rd ho161 (hW.at (i := 262) rfl))) (fun v158 m158 hv158 => ?_)
                subst hv158
                refine VO.parts 260 [257, 207] rfl hg159 ?_
                refine VO.parts 262 [255, 212] rfl hg161 ?_
                refine VO.gy rfl ⟨_, rfl, rfl⟩ (.notD rfl) ?_
                refine VO.y rfl (.pF rfl rfl) ?_
                refine VO.kp [212, 207, 220, 218, 214, 209, 202, 200, 198, 197, 194, 193, 102, 0] [(212, q110_0_n2), (207, q105_0_n2), (220, mone g119 (.cells [Value.int .i64 (((runDecode d1).1).1), Value.int .i64 (((runDecode d1).1).2.1), Value.slice q116_0_A2 ((((runDecode d1).1).2.2).length) (q116_0_c2)].toArray 32 (0, 0))), (218, q116_0_n2), (214, mone g113 (.cells [Value.int .i64 (((runDecode d1).1).1), Value.int .i64 (((runDecode d1).1).2.1), Value.slice q110_0_A2 ((((runDecode d1).1).2.2).length) (q110_0_c2)].toArray 32 (0, 0))), (209, mone g108 (.cells [Value.int .i64 (((runDecode d1).1).1), Value.int .i64 (((runDecode d1).1).2.1), Value.slice q105_0_A2 ((((runDecode d1).1).2.2).length) (q105_0_c2)].toArray 32 (0, 0))), (202, m102), (200, m100), (198, m98), (197, mone g96 (.cells [Value.int .i64 (d0.1), Value.int .i64 (d0.2.1), Value.slice A93_0 (d0.2.2.length) (c93_0)].toArray 32 (0, 0))), (194, m94), (193, m93), (102, mone g1 (.cells [Value.int .i64 (d0.1), Value.int .i64 (d0.2.1), Value.slice p0_A2 (d0.2.2.length) (p0_c2)].toArray 32 (0, 0))), (0, wm W)] ?_
                refine VO.k20 0 1 2 4 5 6 7 8 9 10 11 12 14 15 16 17 18 21 36 116 ?_
                refine outN ?_
                refine VC.cond rfl (fun hc163 => ?_) (fun hc163 => ?_)
                · -- FFFFFF1T
                  exact absurd rfl hc163
                · -- FFFFFF1F
                  refine VC.skip ?_
                  refine outN ?_
                  refine VC.rs ?_
                  refine VO.mv ?_
                  refine VO.y rfl (.fa rfl tst32 rfl) ?_
                  refine VO.y rfl (.ld1 102 rfl tk30 rfl (cellsAt_one rfl rfl)) ?_
                  refine VO.callN 264 rfl fnOk24 rfl (fun W hW => KeptOps_ok W (OwnL.rd (Ow.ownl f93_0 rfl mnil) (hW.at (i := 193) rfl) (mle_nil _)) (Rd.mono p0_2 (hW.at (i := 0) rfl)) bd) (fun v164 m164 hv164 => ?_)
                  subst hv164
                  refine VO.mv ?_
                  refine VO.dec (t := 121) rfl (fun hc165 => ?_) (fun hc165 => ?_)
                  · -- FFFFFF1FT
                    refine VO.gy rfl ⟨_, rfl, rfl⟩ (.mv rfl) ?_
                    refine VO.gy rfl ⟨_, rfl, rfl⟩ (.mv rfl) ?_
                    refine VO.gcallN 266 rfl ⟨_, rfl, rfl⟩ fnOk25 rfl (fun W hW => KeptBytes_ok W (OwnL.rd (Ow.ownl f94_0 rfl mnil) (hW.at (i := 194) rfl) (mle_nil _)) (Rd.mono h1 (hW.at (i := 0) rfl)) bd) (fun v166 m166 hv166 => ?_)
                    subst hv166
                    refine VO.y rfl (.pT rfl rfl) ?_
                    refine VO.mv ?_
                    refine VO.dec (t := 126) rfl (fun hc167 => ?_) (fun hc167 => ?_)
                    · -- FFFFFF1FTT
                      refine VO.gy rfl ⟨_, rfl, rfl⟩ (.mv rfl) ?_
                      refine VO.gy rfl ⟨_, rfl, rfl⟩ (.mv rfl) ?_
                      refine VO.gbsl (cs := [Value.slice A98_0 (((runEncode d0).1).length) (c98_0), Value.slice A102_0 (((runEncode d0).1).length) (c102_0)]) 269 rfl ⟨_, rfl, rfl⟩ rfl tsl50 tz38 rfl rfl (fun g168 => ?_)
                      refine VO.gather (l := [mone g168 (.cells [Value.slice A98_0 (((runEncode d0).1).length) (c98_0), Value.slice A102_0 (((runEncode d0).1).length) (c102_0)].toArray 38 (0, 0)), m98, m102]) 272 [269, 198, 202] rfl (fun hg171 => ?_)
                      have ho171 : Ow (.sl (.sl .byte)) (muns [mone g168 (.cells [Value.slice A98_0 (((runEncode d0).1).length) (c98_0), Value.slice A102_0 (((runEncode d0).1).length) (c102_0)].toArray 38 (0, 0)), m98, m102]) [Value.slice (some ⟨g168, 0, none⟩) (2) (2)] [(runEncode d0).1, (runEncode d0).1] := Ow.lit 2 (Seps.grp1 (ls := [[m98], [m102]]) hg171) (OwAs.cons (m := muns [m98]) (c1 := [Value.slice A98_0 (((runEncode d0).1).length) (c98_0)]) (Ow.up (OwnL.ow (Ow.ownl f98_0 rfl mnil) rfl) ((Seps.self hg171 (List.Sublist.cons _ (List.Sublist.cons_cons _ (List.Sublist.cons _ List.Sublist.slnil)))).1 _ (.head _))) (OwAs.cons (m := muns [m102]) (c1 := [Value.slice A102_0 (((runEncode d0).1).length) (c102_0)]) (Ow.up (OwnL.ow (Ow.ownl f102_0 rfl mnil) rfl) ((Seps.self hg171 (List.Sublist.cons _ (List.Sublist.cons _ (List.Sublist.cons_cons _ List.Sublist.slnil)))).1 _ (.head _))) OwAs.nil)) rfl rfl
                      refine VO.gcall 272 rfl ⟨_, rfl, rfl⟩ fnOk26 rfl rfl (fun W hW => ApartBytes_ok W (hW.at (i := 272) rfl) ho171 bd (by exact two_runE d0)) (fun v170 m170 hv170 => ?_)
                      subst hv170
                      refine VO.y rfl (.pT rfl rfl) ?_
                      refine VO.mv ?_
                      refine VO.gy rfl ⟨_, rfl, rfl⟩ (.fa rfl tst32 rfl) ?_
                      refine VO.gy rfl ⟨_, rfl, rfl⟩ (.ld1 209 rfl tk30 rfl (cellsAt_one rfl rfl)) ?_
                      refine VO.gy rfl ⟨_, rfl, rfl⟩ (.fa rfl tst32 rfl) ?_
                      refine VO.gy rfl ⟨_, rfl, rfl⟩ (.ld1 220 rfl tk30 rfl (cellsAt_one rfl rfl)) ?_
                      refine VO.gbsl (cs := [Value.slice q105_0_A2 ((((runDecode d1).1).2.2).length) (q105_0_c2), Value.slice q116_0_A2 ((((runDecode d1).1).2.2).length) (q116_0_c2)]) 274 rfl ⟨_, rfl, rfl⟩ rfl tsl52 tz30 rfl rfl (fun g173 => ?_)
                      refine VO.gather (l := [mone g173 (.cells [Value.slice q105_0_A2 ((((runDecode d1).1).2.2).length) (q105_0_c2), Value.slice q116_0_A2 ((((runDecode d1).1).2.2).length) (q116_0_c2)].toArray 30 (0, 0)), q105_0_n2, q116_0_n2]) 277 [274, 207, 218] rfl (fun hg176 => ?_)
                      have ho176 : Ow (.sl (.sl TOp)) (muns [mone g173 (.cells [Value.slice q105_0_A2 ((((runDecode d1).1).2.2).length) (q105_0_c2), Value.slice q116_0_A2 ((((runDecode d1).1).2.2).length) (q116_0_c2)].toArray 30 (0, 0)), q105_0_n2, q116_0_n2]) [Value.slice (some ⟨g173, 0, none⟩) (2) (2)] [((runDecode d1).1).2.2, ((runDecode d1).1).2.2] := Ow.lit 2 (Seps.grp1 (ls := [[q105_0_n2], [q116_0_n2]]) hg176) (OwAs.cons (m := muns [q105_0_n2]) (c1 := [Value.slice q105_0_A2 ((((runDecode d1).1).2.2).length) (q105_0_c2)]) (Ow.up (OwnL.ow (Ow.ownl q105_0_2 rfl mnil) rfl) ((Seps.self hg176 (List.Sublist.cons _ (List.Sublist.cons_cons _ (List.Sublist.cons _ List.Sublist.slnil)))).1 _ (.head _))) (OwAs.cons (m := muns [q116_0_n2]) (c1 := [Value.slice q116_0_A2 ((((runDecode d1).1).2.2).length) (q116_0_c2)]) (Ow.up (OwnL.ow (Ow.ownl q116_0_2 rfl mnil) rfl) ((Seps.self hg176 (List.Sublist.cons _ (List.Sublist.cons _ (List.Sublist.cons_cons _ List.Sublist.slnil)))).1 _ (.head _))) OwAs.nil)) rfl rfl
                      refine VO.gcall 277 rfl ⟨_, rfl, rfl⟩ fnOk27 rfl rfl (fun W hW => ApartOps_ok W (hW.at (i := 277) rfl) ho176 bd (by exact two_runD d1)) (fun v175 m175 hv175 => ?_)
                      subst hv175
                      refine VO.y rfl (.pT rfl rfl) ?_
                      refine VO.as ?_
                      refine VO.k20 0 1 2 4 5 6 7 8 9 10 11 12 14 15 16 17 18 21 36 116 ?_
                      refine VC.ret ?_
                      refine ⟨_, _, res_run (rs := [.tmp 4]) rfl (.tmp rfl .nil), fun W_ hI => out_of (l := []) hI [] rfl rfl (mle_refl _) (fun hS_ => ?_)⟩
                      dsimp only [packV]
                      all_goals (first | rfl | (rfl))
                    · -- FFFFFF1FTF
                      exact absurd rfl hc167
                  · -- FFFFFF1FF
                    exact absurd rfl hc165
section
open Go.ChangeShapes Go.WideShapes Go.ChangeAt Go.RowKit
theorem runCalls_ok0 : tyOk Try.prog 60 TRun (.inl 32) = true := by kernel_rfl
theorem runCalls_ok1 : tyOk Try.prog 60 (.sl .byte) (.inl 38) = true := by kernel_rfl
set_option maxRecDepth 100000 in
theorem runCalls_lifted (os : Os) (started : os.Started) (H : Type) (enc : TypeId × Value → H) :
    ReturnsInHanded {} Try.checked os 4 .any (Rows.runCallsSpec.pre6 enc Try.prog Try.f4 Rows.runCallsRow.domain false) (Rows.runCallsSpec.post enc Try.prog Try.f4 false true false false) := by
  refine returnsInHanded_of_change_sized (C := Try.checked) (by kernel_rfl) started (by kernel_rfl) Try.func4
    (ChangeSpec.witness6 (enc := enc) (C := Try.checked) false ⟨#[], #[.agg #[.int .i64 0, .int .i64 0, .slice none 0 0], .slice none 0 0], []⟩ 8 (by kernel_rfl) (by kernel_rfl) (by kernel_rfl) (by kernel_rfl)) ?_
  intro W base args ds gs before hval0 hW hcnd hsz0 _
  have hsz : (DataW.weightsEach Try.prog (Try.f4.params.toList ++ Rows.runCallsSpec.plain.varTypes Try.prog) (ds ++ gs)).all (· ≤ reachBytes) = true := hsz0
  have hval : ∀ (j : Nat) t v, Try.f4.params[j]? = some t → args[j]? = some v → Value.okWide Try.prog W .any base t v := hval0
  have hW' := hW
  obtain ⟨p, q, hA0, hV, rfl, hfz, hnd⟩ := hW
  have hA : DataW.TrodAll enc Try.prog W 0 (fun _ => true) true Try.f4.params.toList args.toList ds p := hA0
  rw [Try.params4] at hA hval hsz
  clear hA0 hval0
  obtain ⟨args⟩ := args
  obtain ⟨v0, r0, d0, e0, p0, q0, ha0, rfl, rfl, h0, hA0⟩ := trodAll_cons hA
  simp only at ha0; subst ha0
  obtain ⟨v1, r1, d1, e1, p1, q1, ha1, rfl, rfl, h1, hA1⟩ := trodAll_cons hA0
  subst ha1
  obtain ⟨rfl, rfl, rfl⟩ := trodAll_nil hA1
  obtain ⟨c0, x0, rfl, hx0, fit0⟩ := arg_stF (j := 0) 60 runCalls_ok0 Try.underlying32 (hval 0 32 v0 rfl rfl) h0 hsz rfl rfl
  obtain ⟨x1, hx1⟩ := arg_sl 60 runCalls_ok1 Try.underlying38 (hval 1 38 v1 rfl rfl) h1
  refine (calls_of (runCalls_ok W hx0 hx1 (by exact ops_fit fit0.2.2.1))).mono fun e W' ⟨he, hg⟩ => ?_
  subst he
  exact ⟨_, rfl, law_post hW' hg laidOut_ok (by kernel_rfl) rfl Try.underlying4 rfl rfl rfl rfl⟩
theorem runCalls_joined : joinedFacts Try.prog 4 Try.f4 Rows.runCallsSpec Rows.runCallsRow = true := by
  unfold joinedFacts
  rw [laidOut_ok, mapsRowed_ok, stopsHeard_ok, mayEnter_ok, lifts_ok, make_ok]
  kernel_rfl
theorem runCalls_proved : Rows.RunCallsSaid :=
  OpenClaim.holds_of_wide 4 Try.f4 rfl rfl rfl rfl rfl rfl rfl ⟨rfl, rfl, rfl, rfl, rfl⟩ rfl rfl rfl rfl rfl (by kernel_rfl) Try.func4 runCalls_joined
    (of_decide_eq_true (by kernel_rfl)) (by unfold Func.isWrapper; first | (rw [if_pos (by decide +kernel)]; kernel_rfl) | (rw [if_neg (by decide +kernel)]; exact ⟨rfl, rfl⟩))
    (fun os started H enc _ => runCalls_lifted os started H enc)
#print axioms runCalls_proved
end
end Go.Proofs.Ytgmdjhdgaddigaa
