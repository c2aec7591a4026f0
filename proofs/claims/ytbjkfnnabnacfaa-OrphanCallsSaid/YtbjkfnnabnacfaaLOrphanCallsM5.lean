/- Part 5 of the proof of LOrphanCalls: what it needs of the library, the walks and the plain laws. Conditions: those named in each theorem. -/
import Derived.Test.YtbjkfnnabnacfaaLOrphanCallsM4
namespace Go.Proofs.Ytbjkfnnabnacfaa
section
set_option linter.unusedVariables false
set_option linter.unusedSimpArgs false
set_option maxRecDepth 4000
theorem fnOk20 : fnOk Try.prog 20 = true := by kernel_rfl
theorem fnOk51 : fnOk Try.prog 51 = true := by kernel_rfl
theorem fnOk55 : fnOk Try.prog 55 = true := by kernel_rfl
theorem fnOk56 : fnOk Try.prog 56 = true := by kernel_rfl
theorem fnOk59 : fnOk Try.prog 59 = true := by kernel_rfl
theorem fnOk60 : fnOk Try.prog 60 = true := by kernel_rfl
theorem fnOk61 : fnOk Try.prog 61 = true := by kernel_rfl
theorem fnOk62 : fnOk Try.prog 62 = true := by kernel_rfl
theorem fnOk9 : fnOk Try.prog 9 = true := by kernel_rfl
theorem fnOk91 : fnOk Try.prog 91 = true := by kernel_rfl
theorem fnOk92 : fnOk Try.prog 92 = true := by kernel_rfl
theorem fnOk93 : fnOk Try.prog 93 = true := by kernel_rfl
theorem fnOk94 : fnOk Try.prog 94 = true := by kernel_rfl
theorem fnOk97 : fnOk Try.prog 97 = true := by kernel_rfl
theorem tar80 : tar Try.prog 80 = some (3, 1) := by kernel_rfl
theorem tia80 : tia Try.prog 80 = some (3, 3, 1) := by kernel_rfl
theorem tk24 : tk Try.prog 24 = some (some 3) := by kernel_rfl
theorem tsl41 : tsl Try.prog 41 = some (24, 3, 40) := by kernel_rfl
theorem tst24 : tst Try.prog 24 = some [(0, 1), (1, 1), (2, 1)] := by kernel_rfl
theorem tz24 : tz Try.prog 24 = some [.int .i64 0, .int .i64 0, .slice none 0 0] := by kernel_rfl
theorem tz80 : tz Try.prog 80 = some [.int .i64 0, .int .i64 0, .int .i64 0] := by kernel_rfl
theorem tk22 : tk Try.prog 22 = some none := by kernel_rfl
theorem fin0_sectCheck_ok {P : Prop} (h : P := by congr 1; first | exact (sect_bad1 (by omega)).symm | exact (sect_bad2 (by omega) (by omega) (by omega) (by omega) (by first | assumption | exact fol_ne (by assumption) | exact fol_eq (by assumption))).symm | exact (sect_bad3 (by omega) (by omega) (by omega) (by omega) (by first | assumption | exact fol_ne (by assumption) | exact fol_eq (by assumption)) ‹_[_]? = some _› (by omega) (by omega)).symm | exact (sect_good (by omega) (by omega) (by omega) (by omega) (by first | assumption | exact fol_ne (by assumption) | exact fol_eq (by assumption)) ‹_[_]? = some _› (by omega) (by omega)).symm) : P := h
theorem sectCheck_ok (W : World) {v0 : List Value} {d0 : DSection} (h0 : Rd TSection (wm W) v0 d0) : CallR Try.prog 9 [.agg v0.toArray] W (mnil) (fun v m' => v = .int .i64 (sectCheck d0)) := by
  obtain ⟨p0_A2, p0_c2, rfl, p0_0, p0_1, p0_2⟩ := open_Section (x0 := d0.1) (x1 := d0.2.1) (x2 := d0.2.2) h0
  simp only [inK] at p0_0
  simp only [inK] at p0_1
  have p0_r2 := Rd.room p0_2
  refine CallR.ofA (n := 45) Try.func9 rfl rfl rfl ?_
  refine VC.rs ?_
  refine VO.box (cs := [Value.int .i64 (d0.1), Value.int .i64 (d0.2.1), Value.slice p0_A2 (d0.2.2.length) (p0_c2)]) 102 rfl rfl rfl (fun g1 => ?_)
  refine VO.as ?_
  refine VO.k3 0 1 2 ?_
  refine VC.seq ?_
  refine VC.rs ?_
  refine VO.y rfl (.fa rfl tst24 rfl) ?_
  refine VO.y rfl (.ld1 102 rfl tk3 rfl (cellsAt_one rfl rfl)) ?_
  refine VO.y rfl (.lss rfl rfl) ?_
  refine VO.mv ?_
  refine VO.dec (t := 7) rfl (fun hc3 => ?_) (fun hc3 => ?_)
  · -- T
    refine VO.gN ?_
    refine VO.gN ?_
    refine VO.gN ?_
    refine VO.y rfl (.pT rfl rfl) ?_
    refine VO.mv ?_
    refine VO.gN ?_
    refine VO.gN ?_
    refine VO.gN ?_
    refine VO.y rfl (.pT rfl rfl) ?_
    refine VO.mv ?_
    refine VO.gN ?_
    refine VO.gN ?_
    refine VO.gN ?_
    refine VO.gN ?_
    refine VO.y rfl (.pT rfl rfl) ?_
    refine VO.k4 0 1 2 22 ?_
    refine VC.condT rfl ?_
    refine VC.rs ?_
    refine VO.as ?_
    refine VO.kp [102, 0] [(102, mone g1 (.cells [Value.int .i64 (d0.1), Value.int .i64 (d0.2.1), Value.slice p0_A2 (d0.2.2.length) (p0_c2)].toArray 24 (0, 0))), (0, wm W)] ?_
    refine VO.k4 0 1 2 22 ?_
    refine VC.ret ?_
    refine outR ?_
    refine ⟨_, _, res_run (rs := [.tmp 2]) rfl (.tmp rfl .nil), fun W_ hI => out_of (l := []) hI [] rfl rfl (mle_refl _) (fun hS_ => ?_)⟩
    dsimp only [packV]
    all_goals (first | rfl | (exact fin0_sectCheck_ok))
  · -- F
    refine VO.gy rfl ⟨_, rfl, rfl⟩ (.fa rfl tst24 rfl) ?_
    refine VO.gy rfl ⟨_, rfl, rfl⟩ (.ld1 102 rfl tk3 rfl (cellsAt_one rfl rfl)) ?_
    refine VO.gy rfl ⟨_, rfl, rfl⟩ (.gtr rfl rfl) ?_
    refine VO.y rfl (.pF rfl rfl) ?_
    refine VO.mv ?_
    refine VO.dec (t := 12) rfl (fun hc4 => ?_) (fun hc4 => ?_)
    · -- FT
      refine VO.gN ?_
      refine VO.gN ?_
      refine VO.gN ?_
      refine VO.y rfl (.pT rfl rfl) ?_
      refine VO.mv ?_
      refine VO.gN ?_
      refine VO.gN ?_
      refine VO.gN ?_
      refine VO.gN ?_
      refine VO.y rfl (.pT rfl rfl) ?_
      refine VO.k4 0 1 2 22 ?_
      refine VC.condT rfl ?_
      refine VC.rs ?_
      refine VO.as ?_
      refine VO.kp [102, 0] [(102, mone g1 (.cells [Value.int .i64 (d0.1), Value.int .i64 (d0.2.1), Value.slice p0_A2 (d0.2.2.length) (p0_c2)].toArray 24 (0, 0))), (0, wm W)] ?_
      refine VO.k4 0 1 2 22 ?_
      refine VC.ret ?_
      refine outR ?_
      refine ⟨_, _, res_run (rs := [.tmp 2]) rfl (.tmp rfl .nil), fun W_ hI => out_of (l := []) hI [] rfl rfl (mle_refl _) (fun hS_ => ?_)⟩
      dsimp only [packV]
      all_goals (first | rfl | (exact fin0_sectCheck_ok))
    · -- FF
      refine VO.gy rfl ⟨_, rfl, rfl⟩ (.fa rfl tst24 rfl) ?_
      refine VO.gy rfl ⟨_, rfl, rfl⟩ (.ld1 102 rfl tk3 rfl (cellsAt_one rfl rfl)) ?_
      refine VO.gy rfl ⟨_, rfl, rfl⟩ (.lss rfl rfl) ?_
      refine VO.y rfl (.pF rfl rfl) ?_
      refine VO.mv ?_
      refine VO.dec (t := 17) rfl (fun hc5 => ?_) (fun hc5 => ?_)
      · -- FFT
        refine VO.gN ?_
        refine VO.gN ?_
        refine VO.gN ?_
        refine VO.gN ?_
        refine VO.y rfl (.pT rfl rfl) ?_
        refine VO.k4 0 1 2 22 ?_
        refine VC.condT rfl ?_
        refine VC.rs ?_
        refine VO.as ?_
        refine VO.kp [102, 0] [(102, mone g1 (.cells [Value.int .i64 (d0.1), Value.int .i64 (d0.2.1), Value.slice p0_A2 (d0.2.2.length) (p0_c2)].toArray 24 (0, 0))), (0, wm W)] ?_
        refine VO.k4 0 1 2 22 ?_
        refine VC.ret ?_
        refine outR ?_
        refine ⟨_, _, res_run (rs := [.tmp 2]) rfl (.tmp rfl .nil), fun W_ hI => out_of (l := []) hI [] rfl rfl (mle_refl _) (fun hS_ => ?_)⟩
        dsimp only [packV]
        all_goals (first | rfl | (exact fin0_sectCheck_ok))
      · -- FFF
        refine VO.gy rfl ⟨_, rfl, rfl⟩ (.fa rfl tst24 rfl) ?_
        refine VO.gy rfl ⟨_, rfl, rfl⟩ (.ld1 102 rfl tk22 rfl (cellsAt_one rfl rfl)) ?_
        refine VO.gy rfl ⟨_, rfl, rfl⟩ (.lenS rfl tsl22) ?_
        refine VO.gy rfl ⟨_, rfl, rfl⟩ (.eql rfl rfl) ?_
        refine VO.y rfl (.pF rfl rfl) ?_
        refine VO.k4 0 1 2 22 ?_
        refine VC.cond rfl (fun hc6 => ?_) (fun hc6 => ?_)
        · -- FFFT
          refine VC.rs ?_
          refine VO.as ?_
          refine VO.kp [102, 0] [(102, mone g1 (.cells [Value.int .i64 (d0.1), Value.int .i64 (d0.2.1), Value.slice p0_A2 (d0.2.2.length) (p0_c2)].toArray 24 (0, 0))), (0, wm W)] ?_
          refine VO.k4 0 1 2 22 ?_
          refine VC.ret ?_
          refine outR ?_
          refine ⟨_, _, res_run (rs := [.tmp 2]) rfl (.tmp rfl .nil), fun W_ hI => out_of (l := []) hI [] rfl rfl (mle_refl _) (fun hS_ => ?_)⟩
          dsimp only [packV]
          all_goals (first | rfl | (exact fin0_sectCheck_ok))
        · -- FFFF
          refine VC.skip ?_
          refine outN ?_
          refine VC.seq ?_
          refine VC.rs ?_
          refine VO.y rfl (.fa rfl tst24 rfl) ?_
          refine VO.y rfl (.ld1 102 rfl tk3 rfl (cellsAt_one rfl rfl)) ?_
          refine VO.y rfl (.fa rfl tst24 rfl) ?_
          refine VO.y rfl (.ld1 102 rfl tk22 rfl (cellsAt_one rfl rfl)) ?_
          refine VO.callN 107 rfl fnOk51 rfl (fun W hW => follows_ok W 1 bdk d0.2.1 bdk (Rd.mono p0_2 (hW.at (i := 0) rfl))) (fun v7 m7 hv7 => ?_)
          obtain ⟨s7_0, rfl, f7_0⟩ := hv7
          obtain ⟨rfl, q7_0_0, q7_0_1⟩ := open_Fault (x0 := (cFollows 1 d0.2.1 d0.2.2).1) (x1 := (cFollows 1 d0.2.1 d0.2.2).2) (f7_0.rd (mle_refl _))
          simp only [inK] at q7_0_0
          simp only [inK] at q7_0_1
          refine VO.alloc 109 rfl tz75 (fun g8 => ?_)
          refine VO.store (k := 2) (c' := [Value.int .i64 ((cFollows 1 d0.2.1 d0.2.2).1), Value.int .i64 ((cFollows 1 d0.2.1 d0.2.2).2)]) 109 rfl rfl (.inl tk75) rfl rfl rfl rfl rfl ?_
          refine VO.kp [109, 102, 0] [(109, mone g8 (.cells [Value.int .i64 ((cFollows 1 d0.2.1 d0.2.2).1), Value.int .i64 ((cFollows 1 d0.2.1 d0.2.2).2)].toArray 75 (0, 0))), (102, mone g1 (.cells [Value.int .i64 (d0.1), Value.int .i64 (d0.2.1), Value.slice p0_A2 (d0.2.2.length) (p0_c2)].toArray 24 (0, 0))), (0, wm W)] ?_
          refine VO.k5 0 1 2 3 22 ?_
          refine VC.rs ?_
          refine VO.y rfl (.fa rfl tst75 rfl) ?_
          refine VO.y rfl (.ld1 109 rfl tk28 rfl (cellsAt_one rfl rfl)) ?_
          refine VO.y rfl (.neq rfl rfl) ?_
          refine VO.k6 0 1 2 3 22 30 ?_
          refine VC.cond rfl (fun hc10 => ?_) (fun hc10 => ?_)
          · -- FFFFT
            refine VC.rs ?_
            refine VO.y rfl (.fa rfl tst75 rfl) ?_
            refine VO.y rfl (.ld1 109 rfl tk28 rfl (cellsAt_one rfl rfl)) ?_
            refine VO.as ?_
            refine VO.k6 0 1 2 3 22 30 ?_
            refine VC.ret ?_
            refine outR ?_
            refine ⟨_, _, res_run (rs := [.tmp 2]) rfl (.tmp rfl .nil), fun W_ hI => out_of (l := []) hI [] rfl rfl (mle_refl _) (fun hS_ => ?_)⟩
            dsimp only [packV]
            all_goals (first | rfl | (exact fin0_sectCheck_ok))
          · -- FFFFF
            refine VC.skip ?_
            refine outN ?_
            refine VC.seq ?_
            refine VC.seq ?_
            refine VC.regD _ 11 [(0, true), (1, true), (2, true), (3, true), (4, true), (5, true), (6, true), (7, true), (8, true), (9, true), (10, true)] follows (by kernel_rfl) (fun _ h => h.sub [109, 102, 0]) ?_
            refine VD.y rfl rfl (.inl rfl) (.fa rfl tst24 rfl) ?_
            refine VD.y rfl rfl (.inl rfl) (.ld1 102 rfl tk22 rfl (cellsAt_one rfl rfl)) ?_
            refine VD.y rfl rfl (.inl rfl) (.fa rfl tst24 rfl) ?_
            refine VD.y rfl rfl (.inl rfl) (.ld1 102 rfl tk22 rfl (cellsAt_one rfl rfl)) ?_
            refine VD.y rfl rfl (.inl rfl) (.lenS rfl tsl22) ?_
            refine VD.y rfl rfl (.inl rfl) (.sub rfl rfl rfl ⟨bd, bd⟩) ?_
            obtain ⟨x11, hx11⟩ : ∃ z_, (d0.2.2)[(((d0.2.2.length : Nat) : Int) - 1).toNat]? = some z_ := ⟨_, List.getElem?_eq_getElem bd⟩
            obtain ⟨gg11, oo11, ec11, ea11, hce11, hre11⟩ := p0_2.elem hx11
            cases ea11
            obtain ⟨q11_A2, q11_c2, rfl, q11_0, q11_1, q11_2⟩ := open_Commit (x0 := x11.1) (x1 := x11.2.1) (x2 := x11.2.2) hre11
            simp only [inK] at q11_0
            simp only [inK] at q11_1
            have q11_r2 := Rd.room q11_2
            refine VD.y rfl rfl (.inl rfl) (.ixI ((((d0.2.2.length : Nat) : Int) - 1).toNat) rfl rfl tsl22 bd bd) ?_
            refine VD.y rfl rfl (.inl rfl) (.fa rfl tst32 rfl) ?_
            refine VD.y rfl rfl (.inl rfl) (.ld1 0 rfl tk3 rfl (hce11.at1 (j := 0) rfl)) ?_
            refine VD.y rfl rfl (.inl rfl) (.fa rfl tst24 rfl) ?_
            refine VD.y rfl rfl (.inl rfl) (.ld1 102 rfl tk3 rfl (cellsAt_one rfl rfl)) ?_
            refine VD.nil rfl ?_ rfl
            refine VO.y rfl (.geq rfl rfl) ?_
            refine VO.k7 0 1 2 3 22 30 44 ?_
            refine outN ?_
            refine VC.cond rfl (fun hc12 => ?_) (fun hc12 => ?_)
            · -- FFFFFT
              refine VC.rs ?_
              refine VO.as ?_
              refine VO.kp [109, 102, 0] [(109, mone g8 (.cells [Value.int .i64 ((cFollows 1 d0.2.1 d0.2.2).1), Value.int .i64 ((cFollows 1 d0.2.1 d0.2.2).2)].toArray 75 (0, 0))), (102, mone g1 (.cells [Value.int .i64 (d0.1), Value.int .i64 (d0.2.1), Value.slice (some ⟨gg11, oo11, none⟩) (d0.2.2.length) (p0_c2)].toArray 24 (0, 0))), (0, wm W)] ?_
              refine VO.k7 0 1 2 3 22 30 44 ?_
              refine VC.ret ?_
              refine outR ?_
              refine ⟨_, _, res_run (rs := [.tmp 2]) rfl (.tmp rfl .nil), fun W_ hI => out_of (l := []) hI [] rfl rfl (mle_refl _) (fun hS_ => ?_)⟩
              dsimp only [packV]
              all_goals (first | rfl | (exact fin0_sectCheck_ok))
            · -- FFFFFF
              refine VC.skip ?_
              refine outN ?_
              refine VC.rs ?_
              refine VO.as ?_
              refine VO.kp [109, 102, 0] [(109, mone g8 (.cells [Value.int .i64 ((cFollows 1 d0.2.1 d0.2.2).1), Value.int .i64 ((cFollows 1 d0.2.1 d0.2.2).2)].toArray 75 (0, 0))), (102, mone g1 (.cells [Value.int .i64 (d0.1), Value.int .i64 (d0.2.1), Value.slice (some ⟨gg11, oo11, none⟩) (d0.2.2.length) (p0_c2)].toArray 24 (0, 0))), (0, wm W)] ?_
              refine VO.k7 0 1 2 3 22 30 44 ?_
              refine VC.ret ?_
              refine ⟨_, _, res_run (rs := [.tmp 2]) rfl (.tmp rfl .nil), fun W_ hI => out_of (l := []) hI [] rfl rfl (mle_refl _) (fun hS_ => ?_)⟩
              dsimp only [packV]
              all_goals (first | rfl | (exact fin0_sectCheck_ok))
theorem fin0_s19Check_ok {P : Prop} (h : P := by congr 1; first | exact (sect_bad1 (by omega)).symm | exact (sect_bad2 (by omega) (by omega) (by omega) (by omega) (by first | assumption | exact fol_ne (by assumption) | exact fol_eq (by assumption))).symm | exact (sect_bad3 (by omega) (by omega) (by omega) (by omega) (by first | assumption | exact fol_ne (by assumption) | exact fol_eq (by assumption)) ‹_[_]? = some _› (by omega) (by omega)).symm | exact (sect_good (by omega) (by omega) (by omega) (by omega) (by first | assumption | exact fol_ne (by assumption) | exact fol_eq (by assumption)) ‹_[_]? = some _› (by omega) (by omega)).symm) : P := h
theorem s19Check_ok (W : World) {v0 : List Value} {d0 : DSection} (h0 : Rd TSection (wm W) v0 d0) : CallR Try.prog 20 [.agg v0.toArray] W (mnil) (fun v m' => v = .int .i64 (sectCheck d0)) := by
  obtain ⟨p0_A2, p0_c2, rfl, p0_0, p0_1, p0_2⟩ := open_Section (x0 := d0.1) (x1 := d0.2.1) (x2 := d0.2.2) h0
  simp only [inK] at p0_0
  simp only [inK] at p0_1
  have p0_r2 := Rd.room p0_2
  refine CallR.ofA (n := 45) Try.func20 rfl rfl rfl ?_
  refine VC.rs ?_
  refine VO.box (cs := [Value.int .i64 (d0.1), Value.int .i64 (d0.2.1), Value.slice p0_A2 (d0.2.2.length) (p0_c2)]) 102 rfl rfl rfl (fun g1 => ?_)
  refine VO.as ?_
  refine VO.k3 0 1 2 ?_
  refine VC.seq ?_
  refine VC.rs ?_
  refine VO.y rfl (.fa rfl tst24 rfl) ?_
  refine VO.y rfl (.ld1 102 rfl tk3 rfl (cellsAt_one rfl rfl)) ?_
  refine VO.y rfl (.lss rfl rfl) ?_
  refine VO.mv ?_
  refine VO.dec (t := 7) rfl (fun hc3 => ?_) (fun hc3 => ?_)
  · -- T
    refine VO.gN ?_
    refine VO.gN ?_
    refine VO.gN ?_
    refine VO.y rfl (.pT rfl rfl) ?_
    refine VO.mv ?_
    refine VO.gN ?_
    refine VO.gN ?_
    refine VO.gN ?_
    refine VO.y rfl (.pT rfl rfl) ?_
    refine VO.mv ?_
    refine VO.gN ?_
    refine VO.gN ?_
    refine VO.gN ?_
    refine VO.gN ?_
    refine VO.y rfl (.pT rfl rfl) ?_
    refine VO.k4 0 1 2 22 ?_
    refine VC.condT rfl ?_
    refine VC.rs ?_
    refine VO.as ?_
    refine VO.kp [102, 0] [(102, mone g1 (.cells [Value.int .i64 (d0.1), Value.int .i64 (d0.2.1), Value.slice p0_A2 (d0.2.2.length) (p0_c2)].toArray 24 (0, 0))), (0, wm W)] ?_
    refine VO.k4 0 1 2 22 ?_
    refine VC.ret ?_
    refine outR ?_
    refine ⟨_, _, res_run (rs := [.tmp 2]) rfl (.tmp rfl .nil), fun W_ hI => out_of (l := []) hI [] rfl rfl (mle_refl _) (fun hS_ => ?_)⟩
    dsimp only [packV]
    all_goals (first | rfl | (exact fin0_s19Check_ok))
  · -- F
    refine VO.gy rfl ⟨_, rfl, rfl⟩ (.fa rfl tst24 rfl) ?_
    refine VO.gy rfl ⟨_, rfl, rfl⟩ (.ld1 102 rfl tk3 rfl (cellsAt_one rfl rfl)) ?_
    refine VO.gy rfl ⟨_, rfl, rfl⟩ (.gtr rfl rfl) ?_
    refine VO.y rfl (.pF rfl rfl) ?_
    refine VO.mv ?_
    refine VO.dec (t := 12) rfl (fun hc4 => ?_) (fun hc4 => ?_)
    · -- FT
      refine VO.gN ?_
      refine VO.gN ?_
      refine VO.gN ?_
      refine VO.y rfl (.pT rfl rfl) ?_
      refine VO.mv ?_
      refine VO.gN ?_
      refine VO.gN ?_
      refine VO.gN ?_
      refine VO.gN ?_
      refine VO.y rfl (.pT rfl rfl) ?_
      refine VO.k4 0 1 2 22 ?_
      refine VC.condT rfl ?_
      refine VC.rs ?_
      refine VO.as ?_
      refine VO.kp [102, 0] [(102, mone g1 (.cells [Value.int .i64 (d0.1), Value.int .i64 (d0.2.1), Value.slice p0_A2 (d0.2.2.length) (p0_c2)].toArray 24 (0, 0))), (0, wm W)] ?_
      refine VO.k4 0 1 2 22 ?_
      refine VC.ret ?_
      refine outR ?_
      refine ⟨_, _, res_run (rs := [.tmp 2]) rfl (.tmp rfl .nil), fun W_ hI => out_of (l := []) hI [] rfl rfl (mle_refl _) (fun hS_ => ?_)⟩
      dsimp only [packV]
      all_goals (first | rfl | (exact fin0_s19Check_ok))
    · -- FF
      refine VO.gy rfl ⟨_, rfl, rfl⟩ (.fa rfl tst24 rfl) ?_
      refine VO.gy rfl ⟨_, rfl, rfl⟩ (.ld1 102 rfl tk3 rfl (cellsAt_one rfl rfl)) ?_
      refine VO.gy rfl ⟨_, rfl, rfl⟩ (.lss rfl rfl) ?_
      refine VO.y rfl (.pF rfl rfl) ?_
      refine VO.mv ?_
      refine VO.dec (t := 17) rfl (fun hc5 => ?_) (fun hc5 => ?_)
      · -- FFT
        refine VO.gN ?_
        refine VO.gN ?_
        refine VO.gN ?_
        refine VO.gN ?_
        refine VO.y rfl (.pT rfl rfl) ?_
        refine VO.k4 0 1 2 22 ?_
        refine VC.condT rfl ?_
        refine VC.rs ?_
        refine VO.as ?_
        refine VO.kp [102, 0] [(102, mone g1 (.cells [Value.int .i64 (d0.1), Value.int .i64 (d0.2.1), Value.slice p0_A2 (d0.2.2.length) (p0_c2)].toArray 24 (0, 0))), (0, wm W)] ?_
        refine VO.k4 0 1 2 22 ?_
        refine VC.ret ?_
        refine outR ?_
        refine ⟨_, _, res_run (rs := [.tmp 2]) rfl (.tmp rfl .nil), fun W_ hI => out_of (l := []) hI [] rfl rfl (mle_refl _) (fun hS_ => ?_)⟩
        dsimp only [packV]
        all_goals (first | rfl | (exact fin0_s19Check_ok))
      · -- FFF
        refine VO.gy rfl ⟨_, rfl, rfl⟩ (.fa rfl tst24 rfl) ?_
        refine VO.gy rfl ⟨_, rfl, rfl⟩ (.ld1 102 rfl tk22 rfl (cellsAt_one rfl rfl)) ?_
        refine VO.gy rfl ⟨_, rfl, rfl⟩ (.lenS rfl tsl22) ?_
        refine VO.gy rfl ⟨_, rfl, rfl⟩ (.eql rfl rfl) ?_
        refine VO.y rfl (.pF rfl rfl) ?_
        refine VO.k4 0 1 2 22 ?_
        refine VC.cond rfl (fun hc6 => ?_) (fun hc6 => ?_)
        · -- FFFT
          refine VC.rs ?_
          refine VO.as ?_
          refine VO.kp [102, 0] [(102, mone g1 (.cells [Value.int .i64 (d0.1), Value.int .i64 (d0.2.1), Value.slice p0_A2 (d0.2.2.length) (p0_c2)].toArray 24 (0, 0))), (0, wm W)] ?_
          refine VO.k4 0 1 2 22 ?_
          refine VC.ret ?_
          refine outR ?_
          refine ⟨_, _, res_run (rs := [.tmp 2]) rfl (.tmp rfl .nil), fun W_ hI => out_of (l := []) hI [] rfl rfl (mle_refl _) (fun hS_ => ?_)⟩
          dsimp only [packV]
          all_goals (first | rfl | (exact fin0_s19Check_ok))
        · -- FFFF
          refine VC.skip ?_
          refine outN ?_
          refine VC.rs ?_
          refine VO.y rfl (.fa rfl tst24 rfl) ?_
          refine VO.y rfl (.ld1 102 rfl tk3 rfl (cellsAt_one rfl rfl)) ?_
          refine VO.y rfl (.fa rfl tst24 rfl) ?_
          refine VO.y rfl (.ld1 102 rfl tk22 rfl (cellsAt_one rfl rfl)) ?_
          refine VO.callN 107 rfl fnOk62 rfl (fun W hW => c4Follows_ok W 1 bdk d0.2.1 bdk (Rd.mono p0_2 (hW.at (i := 0) rfl))) (fun v7 m7 hv7 => ?_)
          obtain ⟨s7_0, rfl, f7_0⟩ := hv7
          obtain ⟨rfl, q7_0_0, q7_0_1⟩ := open_Fault (x0 := (cFollows 1 d0.2.1 d0.2.2).1) (x1 := (cFollows 1 d0.2.1 d0.2.2).2) (f7_0.rd (mle_refl _))
          simp only [inK] at q7_0_0
          simp only [inK] at q7_0_1
          refine VO.alloc 109 rfl tz75 (fun g8 => ?_)
          refine VO.store (k := 2) (c' := [Value.int .i64 ((cFollows 1 d0.2.1 d0.2.2).1), Value.int .i64 ((cFollows 1 d0.2.1 d0.2.2).2)]) 109 rfl rfl (.inl tk75) rfl rfl rfl rfl rfl ?_
          refine VO.kp [109, 102, 0] [(109, mone g8 (.cells [Value.int .i64 ((cFollows 1 d0.2.1 d0.2.2).1), Value.int .i64 ((cFollows 1 d0.2.1 d0.2.2).2)].toArray 75 (0, 0))), (102, mone g1 (.cells [Value.int .i64 (d0.1), Value.int .i64 (d0.2.1), Value.slice p0_A2 (d0.2.2.length) (p0_c2)].toArray 24 (0, 0))), (0, wm W)] ?_
          refine VO.k5 0 1 2 3 22 ?_
          refine VC.seq ?_
          refine VC.rs ?_
          refine VO.y rfl (.ldA 109 rfl tk75 rfl (cellsAt_one rfl rfl)) ?_
          refine VO.y rfl (.bst (cs := [Value.int .i64 (0), Value.int .i64 (0)]) rfl tst75 tz75 rfl) ?_
          refine VO.y rfl (.stneq (p := ((cFollows 1 d0.2.1 d0.2.2).1) = 0 ∧ ((cFollows 1 d0.2.1 d0.2.2).2) = 0) rfl rfl (teq75 ((cFollows 1 d0.2.1 d0.2.2).1) ((cFollows 1 d0.2.1 d0.2.2).2)) (teq75 0 0) (by simp [ceq, ba_toList])) ?_
          refine VO.k6 0 1 2 3 22 30 ?_
          refine VC.cond rfl (fun hc10 => ?_) (fun hc10 => ?_)
          · -- FFFFT
            refine VC.rs ?_
            refine VO.y rfl (.fa rfl tst75 rfl) ?_
            refine VO.y rfl (.ld1 109 rfl tk28 rfl (cellsAt_one rfl rfl)) ?_
            refine VO.as ?_
            refine VO.k6 0 1 2 3 22 30 ?_
            refine VC.ret ?_
            refine outR ?_
            refine ⟨_, _, res_run (rs := [.tmp 2]) rfl (.tmp rfl .nil), fun W_ hI => out_of (l := []) hI [] rfl rfl (mle_refl _) (fun hS_ => ?_)⟩
            dsimp only [packV]
            all_goals (first | rfl | (exact fin0_s19Check_ok))
          · -- FFFFF
            refine VC.skip ?_
            refine outN ?_
            refine VC.seq ?_
            refine VC.seq ?_
            refine VC.regD _ 11 [(0, true), (1, true), (2, true), (3, true), (4, true), (5, true), (6, true), (7, true), (8, true), (9, true), (10, true)] follows (by kernel_rfl) (fun _ h => h.sub [109, 102, 0]) ?_
            refine VD.y rfl rfl (.inl rfl) (.fa rfl tst24 rfl) ?_
            refine VD.y rfl rfl (.inl rfl) (.ld1 102 rfl tk22 rfl (cellsAt_one rfl rfl)) ?_
            refine VD.y rfl rfl (.inl rfl) (.fa rfl tst24 rfl) ?_
            refine VD.y rfl rfl (.inl rfl) (.ld1 102 rfl tk22 rfl (cellsAt_one rfl rfl)) ?_
            refine VD.y rfl rfl (.inl rfl) (.lenS rfl tsl22) ?_
            refine VD.y rfl rfl (.inl rfl) (.sub rfl rfl rfl ⟨bd, bd⟩) ?_
            obtain ⟨x11, hx11⟩ : ∃ z_, (d0.2.2)[(((d0.2.2.length : Nat) : Int) - 1).toNat]? = some z_ := ⟨_, List.getElem?_eq_getElem bd⟩
            obtain ⟨gg11, oo11, ec11, ea11, hce11, hre11⟩ := p0_2.elem hx11
            cases ea11
            obtain ⟨q11_A2, q11_c2, rfl, q11_0, q11_1, q11_2⟩ := open_Commit (x0 := x11.1) (x1 := x11.2.1) (x2 := x11.2.2) hre11
            simp only [inK] at q11_0
            simp only [inK] at q11_1
            have q11_r2 := Rd.room q11_2
            refine VD.y rfl rfl (.inl rfl) (.ixI ((((d0.2.2.length : Nat) : Int) - 1).toNat) rfl rfl tsl22 bd bd) ?_
            refine VD.y rfl rfl (.inl rfl) (.fa rfl tst32 rfl) ?_
            refine VD.y rfl rfl (.inl rfl) (.ld1 0 rfl tk3 rfl (hce11.at1 (j := 0) rfl)) ?_
            refine VD.y rfl rfl (.inl rfl) (.fa rfl tst24 rfl) ?_
            refine VD.y rfl rfl (.inl rfl) (.ld1 102 rfl tk3 rfl (cellsAt_one rfl rfl)) ?_
            refine VD.nil rfl ?_ rfl
            refine VO.y rfl (.geq rfl rfl) ?_
            refine VO.k7 0 1 2 3 22 30 44 ?_
            refine outN ?_
            refine VC.cond rfl (fun hc12 => ?_) (fun hc12 => ?_)
            · -- FFFFFT
              refine VC.rs ?_
              refine VO.as ?_
              refine VO.kp [109, 102, 0] [(109, mone g8 (.cells [Value.int .i64 ((cFollows 1 d0.2.1 d0.2.2).1), Value.int .i64 ((cFollows 1 d0.2.1 d0.2.2).2)].toArray 75 (0, 0))), (102, mone g1 (.cells [Value.int .i64 (d0.1), Value.int .i64 (d0.2.1), Value.slice (some ⟨gg11, oo11, none⟩) (d0.2.2.length) (p0_c2)].toArray 24 (0, 0))), (0, wm W)] ?_
              refine VO.k7 0 1 2 3 22 30 44 ?_
              refine VC.ret ?_
              refine outR ?_
              refine ⟨_, _, res_run (rs := [.tmp 2]) rfl (.tmp rfl .nil), fun W_ hI => out_of (l := []) hI [] rfl rfl (mle_refl _) (fun hS_ => ?_)⟩
              dsimp only [packV]
              all_goals (first | rfl | (exact fin0_s19Check_ok))
            · -- FFFFFF
              refine VC.skip ?_
              refine outN ?_
              refine VC.rs ?_
              refine VO.as ?_
              refine VO.kp [109, 102, 0] [(109, mone g8 (.cells [Value.int .i64 ((cFollows 1 d0.2.1 d0.2.2).1), Value.int .i64 ((cFollows 1 d0.2.1 d0.2.2).2)].toArray 75 (0, 0))), (102, mone g1 (.cells [Value.int .i64 (d0.1), Value.int .i64 (d0.2.1), Value.slice (some ⟨gg11, oo11, none⟩) (d0.2.2.length) (p0_c2)].toArray 24 (0, 0))), (0, wm W)] ?_
              refine VO.k7 0 1 2 3 22 30 44 ?_
              refine VC.ret ?_
              refine ⟨_, _, res_run (rs := [.tmp 2]) rfl (.tmp rfl .nil), fun W_ hI => out_of (l := []) hI [] rfl rfl (mle_refl _) (fun hS_ => ?_)⟩
              dsimp only [packV]
              all_goals (first | rfl | (exact fin0_s19Check_ok))
theorem fin0_sectEncode_ok {P : Prop} (h : P := by first | omega | (simp only [List.length_append, List.length_nil, List.length_cons, List.length_take, List.length_drop] at *; omega) | (have h_ := sect_ok (Decidable.not_not.1 ‹¬ ¬ sectCheck d0 = 0›); have h2_ := sect_fork (Decidable.not_not.1 ‹¬ ¬ sectCheck d0 = 0›); omega) | (have h_ := sect_ok (Decidable.not_not.1 ‹¬ ¬ sectCheck d0 = 0›); have h2_ := sect_fork (Decidable.not_not.1 ‹¬ ¬ sectCheck d0 = 0›); simp only [List.length_append, List.length_nil, List.length_cons, List.length_take, List.length_drop] at *; omega)) : P := h
theorem sectEncode_ok (W : World) {v0 : List Value} {d0 : DSection} (h0 : Rd TSection (wm W) v0 d0) : CallR Try.prog 16 [.agg v0.toArray] W (mnil) (fun v m' => ∃ (s0 : Value), v = .tuple #[s0, .int .i64 ((sectEncode d0).2)] ∧ Ow (.sl .byte) m' [s0] ((sectEncode d0).1)) := by
  obtain ⟨p0_A2, p0_c2, rfl, p0_0, p0_1, p0_2⟩ := open_Section (x0 := d0.1) (x1 := d0.2.1) (x2 := d0.2.2) h0
  simp only [inK] at p0_0
  simp only [inK] at p0_1
  have p0_r2 := Rd.room p0_2
  refine CallR.ofA (n := 64) Try.func16 rfl rfl rfl ?_
  refine VC.rs ?_
  refine VO.box (cs := [Value.int .i64 (d0.1), Value.int .i64 (d0.2.1), Value.slice p0_A2 (d0.2.2.length) (p0_c2)]) 102 rfl rfl rfl (fun g1 => ?_)
  refine VO.as ?_
  refine VO.as ?_
  refine VO.k4 0 1 2 3 ?_
  refine VC.seq ?_
  refine VC.rs ?_
  refine VO.y rfl (.ldA 102 rfl tk24 rfl (cellsAt_one rfl rfl)) ?_
  refine VO.callN 103 rfl fnOk9 rfl (fun W hW => sectCheck_ok W (Rd.mono h0 (hW.at (i := 0) rfl))) (fun v3 m3 hv3 => ?_)
  subst hv3
  have hfa4 := sectCheck_range d0
  refine VO.as ?_
  refine VO.k5 0 1 2 3 4 ?_
  refine VC.rs ?_
  refine VO.mv ?_
  refine VO.y rfl (.neq rfl rfl) ?_
  refine VO.kp [102, 0] [(102, mone g1 (.cells [Value.int .i64 (d0.1), Value.int .i64 (d0.2.1), Value.slice p0_A2 (d0.2.2.length) (p0_c2)].toArray 24 (0, 0))), (0, wm W)] ?_
  refine VO.k6 0 1 2 3 4 17 ?_
  refine VC.cond rfl (fun hc5 => ?_) (fun hc5 => ?_)
  · -- T
    refine VC.rs ?_
    refine VO.mv ?_
    refine VO.as ?_
    refine VO.as ?_
    refine VO.k6 0 1 2 3 4 17 ?_
    refine VC.ret ?_
    refine outR ?_
    refine ⟨_, _, res_run (rs := [.tmp 2, .tmp 3]) rfl (.tmp rfl (.tmp rfl .nil)), fun W_ hI => out_of (l := []) hI [] rfl rfl (mle_refl _) (fun hS_ => ?_)⟩
    dsimp only [packV]
    have he0 : ((sectEncode d0).1 : Ty.Den (.sl .byte)) = [] := by first | rfl | (first | (rw [sectEncode_bad (by assumption)] <;> rfl) | (rw [sectEncode_good (by assumption)] <;> first | rfl | (dsimp only; rw [← hb, List.drop_of_length_le (by omega)]; simp [cFrames]; done) | (dsimp only; rw [he]; done)))
    refine ⟨Value.slice none (0) (0), ?_, ?_⟩
    rotate_left
    · rw [he0]; exact (Ow.nil _ _)
    all_goals (first | rfl | (first | (rw [sectEncode_bad (by assumption)] <;> rfl) | (rw [sectEncode_good (by assumption)] <;> first | rfl | (dsimp only; rw [← hb, List.drop_of_length_le (by omega)]; simp [cFrames]; done) | (dsimp only; rw [he]; done))))
  · -- F
    refine VC.skip ?_
    refine outN ?_
    refine VC.rs ?_
    refine VO.as ?_
    refine VO.k7 0 1 2 3 4 5 17 ?_
    refine VC.seq ?_
    refine VC.rs ?_
    refine VO.y rfl (.fa rfl tst24 rfl) ?_
    refine VO.y rfl (.ld1 102 rfl tk3 rfl (cellsAt_one rfl rfl)) ?_
    refine VO.y rfl (.fa rfl tst24 rfl) ?_
    refine VO.y rfl (.ld1 102 rfl tk3 rfl (cellsAt_one rfl rfl)) ?_
    refine VO.y rfl (.fa rfl tst24 rfl) ?_
    refine VO.y rfl (.ld1 102 rfl tk22 rfl (cellsAt_one rfl rfl)) ?_
    refine VO.y rfl (.lenS rfl tsl22) ?_
    refine VO.y rfl (.bar (cs := [Value.int .i64 (d0.1), Value.int .i64 (d0.2.1), Value.int .i64 (((d0.2.2.length : Nat) : Int))]) rfl tar80 tz80 rfl) ?_
    refine VO.mv ?_
    refine VO.k9 0 1 2 3 4 5 17 26 27 ?_
    refine VC.block ?_
    refine VC.rounds 5 (VRounds.step ?_)
    refine VC.rs ?_
    refine VO.y rfl (.lss rfl rfl) ?_
    refine VO.kp [102, 0] [(102, mone g1 (.cells [Value.int .i64 (d0.1), Value.int .i64 (d0.2.1), Value.slice p0_A2 (d0.2.2.length) (p0_c2)].toArray 24 (0, 0))), (0, wm W)] ?_
    refine VO.k10 0 1 2 3 4 5 17 26 27 28 ?_
    refine VC.seq ?_
    refine VC.condKT rfl (decide_eq_true (by decide)) ?_
    refine VC.skip ?_
    refine outN ?_
    refine VC.seq ?_
    refine VC.block ?_
    refine VC.rs ?_
    refine VO.y rfl (.ix1V rfl rfl tia80 tk3 rfl rfl rfl) ?_
    refine VO.as ?_
    refine VO.k11 0 1 2 3 4 5 7 17 26 27 28 ?_
    refine VC.reg ?_
    refine VO.mv ?_
    refine VO.mv ?_
    refine VO.y rfl (.cvI (c := ((d0.1).toNat : Int)) rfl ⟨_, Try.underlying3⟩ Try.underlying82 (by rw [IntWalk.u64_in _ (by exact fin0_sectEncode_ok)]; first | omega | (exact fin0_sectEncode_ok))) ?_
    refine VO.callN 106 rfl fnOk54 rfl (fun W hW => vAppend_ok W (Rd.nil _ _ none 0 (Nat.zero_le _)) ((d0.1).toNat) (by exact fin0_sectEncode_ok) (by exact fin0_sectEncode_ok)) (fun v6 m6 hv6 => ?_)
    obtain ⟨s6_0, rfl, f6_0⟩ := hv6
    have hfa7 := venc_len (x := ((d0.1).toNat)) (by first | omega | exact or64 (by assumption) _)
    simp only [List.nil_append] at f6_0
    obtain ⟨A6_0, c6_0, eq6_0, l6_0, k6_0⟩ := f6_0.slice
    subst eq6_0
    simp only [maxLen] at k6_0
    refine VO.as ?_
    refine VO.k11 0 1 2 3 4 5 7 17 26 27 28 ?_
    refine outBN ?_
    refine outN ?_
    refine VC.reg ?_
    refine VO.y rfl (.add (c := ((1 : Nat) : Int)) rfl rfl (by omega) ⟨by exact fin0_sectEncode_ok, by exact fin0_sectEncode_ok⟩) ?_
    refine VO.mv ?_
    refine VO.kp [106, 102, 0] [(106, m6), (102, mone g1 (.cells [Value.int .i64 (d0.1), Value.int .i64 (d0.2.1), Value.slice p0_A2 (d0.2.2.length) (p0_c2)].toArray 24 (0, 0))), (0, wm W)] ?_
    refine VO.k11 0 1 2 3 4 5 7 17 26 27 28 ?_
    refine outN (VRounds.step ?_)
    refine VC.rs ?_
    refine VO.y rfl (.lss rfl rfl) ?_
    refine VO.k11 0 1 2 3 4 5 7 17 26 27 28 ?_
    refine VC.seq ?_
    refine VC.condKT rfl (decide_eq_true (by decide)) ?_
    refine VC.skip ?_
    refine outN ?_
    refine VC.seq ?_
    refine VC.block ?_
    refine VC.rs ?_
    refine VO.y rfl (.ix1V rfl rfl tia80 tk3 rfl rfl rfl) ?_
    refine VO.as ?_
    refine VO.k11 0 1 2 3 4 5 7 17 26 27 28 ?_
    refine VC.reg ?_
    refine VO.mv ?_
    refine VO.mv ?_
    refine VO.y rfl (.cvI (c := ((d0.2.1).toNat : Int)) rfl ⟨_, Try.underlying3⟩ Try.underlying82 (by rw [IntWalk.u64_in _ (by exact fin0_sectEncode_ok)]; first | omega | (exact fin0_sectEncode_ok))) ?_
    refine VO.callN 108 rfl fnOk54 rfl (fun W hW => vAppend_ok W (OwnL.rd (Ow.ownl f6_0 rfl mnil) (hW.at (i := 106) rfl) (mle_nil _)) ((d0.2.1).toNat) (by exact fin0_sectEncode_ok) (by exact fin0_sectEncode_ok)) (fun v8 m8 hv8 => ?_)
    obtain ⟨s8_0, rfl, f8_0⟩ := hv8
    have hfa9 := venc_len (x := ((d0.2.1).toNat)) (by first | omega | exact or64 (by assumption) _)
    obtain ⟨A8_0, c8_0, eq8_0, l8_0, k8_0⟩ := f8_0.slice
    subst eq8_0
    simp only [maxLen] at k8_0
    refine VO.as ?_
    refine VO.kp [108, 102, 0] [(108, m8), (102, mone g1 (.cells [Value.int .i64 (d0.1), Value.int .i64 (d0.2.1), Value.slice p0_A2 (d0.2.2.length) (p0_c2)].toArray 24 (0, 0))), (0, wm W)] ?_
    refine VO.k11 0 1 2 3 4 5 7 17 26 27 28 ?_
    refine outBN ?_
    refine outN ?_
    refine VC.reg ?_
    refine VO.y rfl (.add (c := ((2 : Nat) : Int)) rfl rfl (by omega) ⟨by exact fin0_sectEncode_ok, by exact fin0_sectEncode_ok⟩) ?_
    refine VO.mv ?_
    refine VO.k11 0 1 2 3 4 5 7 17 26 27 28 ?_
    refine outN (VRounds.step ?_)
    refine VC.rs ?_
    refine VO.y rfl (.lss rfl rfl) ?_
    refine VO.k11 0 1 2 3 4 5 7 17 26 27 28 ?_
    refine VC.seq ?_
    refine VC.condKT rfl (decide_eq_true (by decide)) ?_
    refine VC.skip ?_
    refine outN ?_
    refine VC.seq ?_
    refine VC.block ?_
    refine VC.rs ?_
    refine VO.y rfl (.ix1V rfl rfl tia80 tk3 rfl rfl rfl) ?_
    refine VO.as ?_
    refine VO.kp [108, 102, 0] [(108, m8), (102, mone g1 (.cells [Value.int .i64 (d0.1), Value.int .i64 (d0.2.1), Value.slice p0_A2 (d0.2.2.length) (p0_c2)].toArray 24 (0, 0))), (0, wm W)] ?_
    refine VO.k11 0 1 2 3 4 5 7 17 26 27 28 ?_
    refine VC.reg ?_
    refine VO.mv ?_
    refine VO.mv ?_
    refine VO.y rfl (.cvI rfl ⟨_, Try.underlying3⟩ Try.underlying82 (IntWalk.u64_in _ (by exact fin0_sectEncode_ok))) ?_
    refine VO.callN 110 rfl fnOk54 rfl (fun W hW => vAppend_ok W (OwnL.rd (Ow.ownl f8_0 rfl mnil) (hW.at (i := 108) rfl) (mle_nil _)) d0.2.2.length (by exact fin0_sectEncode_ok) (by exact fin0_sectEncode_ok)) (fun v10 m10 hv10 => ?_)
    obtain ⟨s10_0, rfl, f10_0⟩ := hv10
    have hfa11 := venc_len (x := d0.2.2.length) (by first | omega | exact or64 (by assumption) _)
    obtain ⟨A10_0, c10_0, eq10_0, l10_0, k10_0⟩ := f10_0.slice
    subst eq10_0
    simp only [maxLen] at k10_0
    refine VO.as ?_
    refine VO.k11 0 1 2 3 4 5 7 17 26 27 28 ?_
    refine outBN ?_
    refine outN ?_
    refine VC.reg ?_
    refine VO.y rfl (.add (c := ((3 : Nat) : Int)) rfl rfl (by omega) ⟨by exact fin0_sectEncode_ok, by exact fin0_sectEncode_ok⟩) ?_
    refine VO.mv ?_
    refine VO.k11 0 1 2 3 4 5 7 17 26 27 28 ?_
    refine outN (VRounds.step ?_)
    refine VC.rs ?_
    refine VO.y rfl (.lss rfl rfl) ?_
    refine VO.kp [110, 102, 0] [(110, m10), (102, mone g1 (.cells [Value.int .i64 (d0.1), Value.int .i64 (d0.2.1), Value.slice p0_A2 (d0.2.2.length) (p0_c2)].toArray 24 (0, 0))), (0, wm W)] ?_
    refine VO.k11 0 1 2 3 4 5 7 17 26 27 28 ?_
    refine VC.seq ?_
    refine VC.condKF rfl (decide_eq_false (by decide)) ?_
    refine VC.exit ?_
    refine outE ?_
    refine outE ?_
    refine outBB ?_
    refine outN ?_
    refine VC.rs ?_
    refine VO.mv ?_
    refine VO.callN 112 rfl fnOk55 rfl (fun W hW => fAppend_ok W (Rd.nil _ _ none 0 (Nat.zero_le _)) (OwnL.rd (Ow.ownl f10_0 rfl mnil) (hW.at (i := 110) rfl) (mle_nil _)) (by exact fin0_sectEncode_ok)) (fun v12 m12 hv12 => ?_)
    obtain ⟨s12_0, rfl, f12_0⟩ := hv12
    have hfa13 := fAppend_len [] (((venc ((d0.1).toNat)) ++ venc ((d0.2.1).toNat)) ++ venc d0.2.2.length)
    have hfa14 := fAppend_range [] (((venc ((d0.1).toNat)) ++ venc ((d0.2.1).toNat)) ++ venc d0.2.2.length)
    obtain ⟨A12_0, c12_0, eq12_0, l12_0, k12_0⟩ := f12_0.slice
    subst eq12_0
    simp only [maxLen] at k12_0
    refine VO.mv ?_
    refine VO.y rfl (.ext rfl rfl) ?_
    refine VO.y rfl (.ext rfl rfl) ?_
    refine VO.as ?_
    refine VO.as ?_
    refine VO.k13 0 1 2 3 4 5 7 8 9 17 26 27 28 ?_
    refine VC.seq ?_
    refine VC.rs ?_
    refine VO.y rfl (.fa rfl tst24 rfl) ?_
    refine VO.y rfl (.ld1 102 rfl tk22 rfl (cellsAt_one rfl rfl)) ?_
    refine VO.y rfl (.lenS rfl tsl22) ?_
    refine VO.mv ?_
    refine VO.k16 0 1 2 3 4 5 7 8 9 17 26 27 28 41 42 43 ?_
    refine VC.block ?_
    refine VC.loop (G := Nat × (List UInt8) × (Option Addr) × Nat × Mem × Int) (fun g => [(8, Value.slice (g.2.2.1) ((g.2.1).length) ((g.2.2.2.1))), (9, Value.int .i64 ((g.2.2.2.2.2))), (43, Value.int .i64 ((((g.1) : Nat) : Int))), (0, Value.agg [Value.int .i64 (d0.1), Value.int .i64 (d0.2.1), Value.slice p0_A2 (d0.2.2.length) (p0_c2)].toArray), (1, Value.pointer (some ⟨g1, 0, none⟩)), (4, Value.int .i64 (sectCheck d0)), (5, Value.slice A10_0 ((((venc ((d0.1).toNat)) ++ venc ((d0.2.1).toNat)) ++ venc d0.2.2.length).length) (c10_0)), (7, Value.int .i64 (((d0.2.2.length : Nat) : Int))), (17, Value.bool (decide (¬ (sectCheck d0) = 0))), (26, Value.agg [Value.int .i64 (d0.1), Value.int .i64 (d0.2.1), Value.int .i64 (((d0.2.2.length : Nat) : Int))].toArray), (27, Value.int .i64 (((3 : Nat) : Int))), (28, Value.bool (decide (((3 : Nat) : Int) < 3))), (41, Value.slice p0_A2 (d0.2.2.length) (p0_c2)), (42, Value.int .i64 (((d0.2.2.length : Nat) : Int)))]) (fun g => [(112, (g.2.2.2.2.1)), (110, m10), (102, mone g1 (.cells [Value.int .i64 (d0.1), Value.int .i64 (d0.2.1), Value.slice p0_A2 (d0.2.2.length) (p0_c2)].toArray 24 (0, 0))), (0, wm W)]) (fun g => ((g.1) ≤ d0.2.2.length) ∧ ((g.2.2.2.2.2) = 0) ∧ ((g.2.1) ++ cFrames (d0.2.2.drop (g.1)) = sectEnc d0) ∧ ((g.2.1).length ≤ 40 + 710 * (g.1)) ∧ (OwnL .byte (g.2.2.2.2.1) mnil (.slice (g.2.2.1) (g.2.1).length (g.2.2.2.1)) (g.2.1))) (fun g => d0.2.2.length - (g.1)) (0, (fAppend [] (((venc ((d0.1).toNat)) ++ venc ((d0.2.1).toNat)) ++ venc d0.2.2.length)).1, A12_0, c12_0, m12, (fAppend [] (((venc ((d0.1).toNat)) ++ venc ((d0.2.1).toNat)) ++ venc d0.2.2.length)).2) (⟨by omega, by exact senc_head0 (Decidable.not_not.1 ‹¬ ¬ sectCheck d0 = 0›), by exact senc_head1 (Decidable.not_not.1 ‹¬ ¬ sectCheck d0 = 0›), by exact senc_head2 (Decidable.not_not.1 ‹¬ ¬ sectCheck d0 = 0›), (Ow.ownl f12_0 rfl mnil)⟩) ⟨⟨rfl, rfl, rfl, rfl, rfl, rfl, rfl, rfl, rfl, rfl, rfl, rfl, rfl, rfl, trivial⟩, fun _ h => h.sub [112, 110, 102, 0]⟩ ?_
    rintro ⟨k, b, b_A, b_c, b_m, e⟩ ⟨hk, he, hb, hl, h_b⟩
    replace hk : k ≤ d0.2.2.length := hk
    replace he : e = 0 := he
    replace hb : b ++ cFrames (d0.2.2.drop k) = sectEnc d0 := hb
    replace hl : b.length ≤ 40 + 710 * k := hl
    replace h_b : OwnL .byte b_m mnil (.slice b_A b.length b_c) b := h_b
    show VC _ _ _ _ _ [(8, Value.slice b_A (b.length) (b_c)), (9, Value.int .i64 (e)), (43, Value.int .i64 (((k : Nat) : Int))), (0, Value.agg [Value.int .i64 (d0.1), Value.int .i64 (d0.2.1), Value.slice p0_A2 (d0.2.2.length) (p0_c2)].toArray), (1, Value.pointer (some ⟨g1, 0, none⟩)), (4, Value.int .i64 (sectCheck d0)), (5, Value.slice A10_0 ((((venc ((d0.1).toNat)) ++ venc ((d0.2.1).toNat)) ++ venc d0.2.2.length).length) (c10_0)), (7, Value.int .i64 (((d0.2.2.length : Nat) : Int))), (17, Value.bool (decide (¬ (sectCheck d0) = 0))), (26, Value.agg [Value.int .i64 (d0.1), Value.int .i64 (d0.2.1), Value.int .i64 (((d0.2.2.length : Nat) : Int))].toArray), (27, Value.int .i64 (((3 : Nat) : Int))), (28, Value.bool (decide (((3 : Nat) : Int) < 3))), (41, Value.slice p0_A2 (d0.2.2.length) (p0_c2)), (42, Value.int .i64 (((d0.2.2.length : Nat) : Int)))] [(112, b_m), (110, m10), (102, mone g1 (.cells [Value.int .i64 (d0.1), Value.int .i64 (d0.2.1), Value.slice p0_A2 (d0.2.2.length) (p0_c2)].toArray 24 (0, 0))), (0, wm W)]
    have l_b : b.length ≤ b_c := by obtain ⟨_, _, he, hl, _⟩ := h_b.slice; simp only [Value.slice.injEq] at he; omega
    have k_b : b_c ≤ 9223372036854775807 := by obtain ⟨_, _, he, _, hl⟩ := h_b.slice; simp only [Value.slice.injEq, maxLen] at he hl; omega
    refine VC.rs ?_
    refine VO.y rfl (.lss rfl rfl) ?_
    refine VO.kp [112, 110, 102, 0] [(112, b_m), (110, m10), (102, mone g1 (.cells [Value.int .i64 (d0.1), Value.int .i64 (d0.2.1), Value.slice p0_A2 (d0.2.2.length) (p0_c2)].toArray 24 (0, 0))), (0, wm W)] ?_
    refine VO.k15 0 1 4 5 7 8 9 17 26 27 28 41 42 43 44 ?_
    refine VC.seq ?_
    refine VC.cond rfl (fun hc15 => ?_) (fun hc15 => ?_)
    · -- FRRRRT
      refine VC.skip ?_
      refine outN ?_
      refine VC.seq ?_
      refine VC.block ?_
      refine VC.rs ?_
      obtain ⟨x16, hx16⟩ : ∃ z_, (d0.2.2)[k]? = some z_ := ⟨_, List.getElem?_eq_getElem (by exact fin0_sectEncode_ok)⟩
      obtain ⟨gg16, oo16, ec16, ea16, hce16, hre16⟩ := p0_2.elem hx16
      cases ea16
      obtain ⟨q16_A2, q16_c2, rfl, q16_0, q16_1, q16_2⟩ := open_Commit (x0 := x16.1) (x1 := x16.2.1) (x2 := x16.2.2) hre16
      simp only [inK] at q16_0
      simp only [inK] at q16_1
      have q16_r2 := Rd.room q16_2
      refine VO.y rfl (.ixI k rfl rfl tsl22 rfl (by exact fin0_sectEncode_ok)) ?_
      refine VO.y rfl (.ldA 0 rfl tk32 rfl hce16) ?_
      refine VO.alloc 118 rfl tz32 (fun g17 => ?_)
      refine VO.store (k := 3) (c' := [Value.int .i64 (x16.1), Value.int .i64 (x16.2.1), Value.slice q16_A2 (x16.2.2.length) (q16_c2)]) 118 rfl rfl (.inl tk32) rfl rfl rfl rfl rfl ?_
      refine VO.k16 0 1 4 5 7 8 9 11 17 26 27 28 41 42 43 44 ?_
      refine VC.seq ?_
      refine VC.rs ?_
      refine VO.mv ?_
      refine VO.y rfl (.neq rfl rfl) ?_
      refine VO.k17 0 1 4 5 7 8 9 11 17 26 27 28 41 42 43 44 48 ?_
      refine VC.cond rfl (fun hc19 => ?_) (fun hc19 => ?_)
      · -- FRRRRTT
        exact absurd he hc19
      · -- FRRRRTF
        refine VC.skip ?_
        refine outN ?_
        refine VC.rs ?_
        refine VO.y rfl (.ldA 118 rfl tk32 rfl (cellsAt_one rfl rfl)) ?_
        refine VO.callN 120 rfl fnOk56 rfl (fun W hW => cEncode_ok_ W (Rd.mono hre16 (hW.at (i := 0) rfl))) (fun v20 m20 hv20 => ?_)
        obtain ⟨s20_0, rfl, f20_0⟩ := hv20
        have hfa21 := cEncode_len x16
        obtain ⟨A20_0, c20_0, eq20_0, l20_0, k20_0⟩ := f20_0.slice
        subst eq20_0
        simp only [maxLen] at k20_0
        refine VO.mv ?_
        refine VO.y rfl (.ext rfl rfl) ?_
        refine VO.y rfl (.ext rfl rfl) ?_
        refine VO.as ?_
        refine VO.as ?_
        refine VO.kp [120, 118, 112, 110, 102, 0] [(120, m20), (118, mone g17 (.cells [Value.int .i64 (x16.1), Value.int .i64 (x16.2.1), Value.slice q16_A2 (x16.2.2.length) (q16_c2)].toArray 32 (0, 0))), (112, b_m), (110, m10), (102, mone g1 (.cells [Value.int .i64 (d0.1), Value.int .i64 (d0.2.1), Value.slice (some ⟨gg16, oo16, none⟩) (d0.2.2.length) (p0_c2)].toArray 24 (0, 0))), (0, wm W)] ?_
        refine VO.k18 0 1 4 5 7 8 9 11 12 17 26 27 28 41 42 43 44 48 ?_
        refine VC.reg ?_
        refine VO.mv ?_
        refine VO.mv ?_
        refine VO.callN 122 rfl fnOk55 rfl (fun W hW => fAppend_ok W (OwnL.rd h_b (hW.at (i := 112) rfl) (mle_nil _)) (OwnL.rd (Ow.ownl f20_0 rfl mnil) (hW.at (i := 120) rfl) (mle_nil _)) (by exact fin0_sectEncode_ok)) (fun v22 m22 hv22 => ?_)
        obtain ⟨s22_0, rfl, f22_0⟩ := hv22
        have hfa23 := fAppend_len b ((cEncode x16).1)
        have hfa24 := fAppend_range b ((cEncode x16).1)
        obtain ⟨A22_0, c22_0, eq22_0, l22_0, k22_0⟩ := f22_0.slice
        subst eq22_0
        simp only [maxLen] at k22_0
        refine VO.mv ?_
        refine VO.y rfl (.ext rfl rfl) ?_
        refine VO.y rfl (.ext rfl rfl) ?_
        refine VO.as ?_
        refine VO.as ?_
        refine VO.k18 0 1 4 5 7 8 9 11 12 17 26 27 28 41 42 43 44 48 ?_
        refine outBN ?_
        refine outN ?_
        refine VC.reg ?_
        refine VO.y rfl (.add (c := ((k + 1 : Nat) : Int)) rfl rfl (by omega) ⟨by exact fin0_sectEncode_ok, by exact fin0_sectEncode_ok⟩) ?_
        refine VO.mv ?_
        refine VO.k18 0 1 4 5 7 8 9 11 12 17 26 27 28 41 42 43 44 48 ?_
        exact outN ⟨⟨k + 1, (fAppend b ((cEncode x16).1)).1, A22_0, c22_0, m22, (fAppend b ((cEncode x16).1)).2⟩, ⟨by omega, by exact senc_step0 (Decidable.not_not.1 ‹¬ ¬ sectCheck d0 = 0›) ‹d0.2.2[k]? = some _›, by exact senc_step1 (Decidable.not_not.1 ‹¬ ¬ sectCheck d0 = 0›) hb ‹d0.2.2[k]? = some _›, by exact senc_step2 (Decidable.not_not.1 ‹¬ ¬ sectCheck d0 = 0›) hl ‹d0.2.2[k]? = some _›, (Ow.ownl f22_0 rfl mnil)⟩, by exact fin0_sectEncode_ok, ⟨⟨rfl, rfl, rfl, rfl, rfl, rfl, rfl, rfl, rfl, rfl, rfl, rfl, rfl, rfl, trivial⟩, fun _ h => Inv.sub (Inv.num h 122 112 rfl) [112, 110, 102, 0]⟩⟩
    · -- FRRRRF
      refine VC.exit ?_
      refine outE ?_
      refine outE ?_
      refine outBB ?_
      refine outN ?_
      refine VC.rs ?_
      refine VO.mv ?_
      refine VO.mv ?_
      refine VO.as ?_
      refine VO.as ?_
      refine VO.k17 0 1 2 3 4 5 7 8 9 17 26 27 28 41 42 43 44 ?_
      refine VC.ret ?_
      refine ⟨_, _, res_run (rs := [.tmp 2, .tmp 3]) rfl (.tmp rfl (.tmp rfl .nil)), fun W_ hI => out_of (l := [b_m]) hI [112] rfl rfl (mle_refl _) (fun hS_ => ?_)⟩
      dsimp only [packV]
      have he0 : ((sectEncode d0).1 : Ty.Den (.sl .byte)) = b := by first | rfl | (first | (rw [sectEncode_bad (by assumption)] <;> rfl) | (rw [sectEncode_good (by assumption)] <;> first | rfl | (dsimp only; rw [← hb, List.drop_of_length_le (by omega)]; simp [cFrames]; done) | (dsimp only; rw [he]; done)))
      refine ⟨Value.slice b_A (b.length) (b_c), ?_, ?_⟩
      rotate_left
      · rw [he0]; exact (Ow.up (OwnL.ow h_b rfl) (hS_.1 _ (.head _)))
      all_goals (first | rfl | (first | (rw [sectEncode_bad (by assumption)] <;> rfl) | (rw [sectEncode_good (by assumption)] <;> first | rfl | (dsimp only; rw [← hb, List.drop_of_length_le (by omega)]; simp [cFrames]; done) | (dsimp only; rw [he]; done))))
theorem fin0_s19Encode_ok {P : Prop} (h : P := by first | omega | (simp only [List.length_append, List.length_nil, List.length_cons, List.length_take, List.length_drop] at *; omega) | (have h_ := sect_ok (Decidable.not_not.1 ‹¬ ¬ sectCheck d0 = 0›); have h2_ := sect_fork (Decidable.not_not.1 ‹¬ ¬ sectCheck d0 = 0›); omega) | (have h_ := sect_ok (Decidable.not_not.1 ‹¬ ¬ sectCheck d0 = 0›); have h2_ := sect_fork (Decidable.not_not.1 ‹¬ ¬ sectCheck d0 = 0›); simp only [List.length_append, List.length_nil, List.length_cons, List.length_take, List.length_drop] at *; omega)) : P := h
theorem s19Encode_ok (W : World) {v0 : List Value} {d0 : DSection} (h0 : Rd TSection (wm W) v0 d0) : CallR Try.prog 17 [.agg v0.toArray] W (mnil) (fun v m' => ∃ (s0 : Value), v = .tuple #[s0, .int .i64 ((sectEncode d0).2)] ∧ Ow (.sl .byte) m' [s0] ((sectEncode d0).1)) := by
  obtain ⟨p0_A2, p0_c2, rfl, p0_0, p0_1, p0_2⟩ := open_Section (x0 := d0.1) (x1 := d0.2.1) (x2 := d0.2.2) h0
  simp only [inK] at p0_0
  simp only [inK] at p0_1
  have p0_r2 := Rd.room p0_2
  refine CallR.ofA (n := 47) Try.func17 rfl rfl rfl ?_
  refine VC.rs ?_
  refine VO.box (cs := [Value.int .i64 (d0.1), Value.int .i64 (d0.2.1), Value.slice p0_A2 (d0.2.2.length) (p0_c2)]) 102 rfl rfl rfl (fun g1 => ?_)
  refine VO.as ?_
  refine VO.as ?_
  refine VO.k4 0 1 2 3 ?_
  refine VC.rs ?_
  refine VO.y rfl (.ldA 102 rfl tk24 rfl (cellsAt_one rfl rfl)) ?_
  refine VO.callN 103 rfl fnOk20 rfl (fun W hW => s19Check_ok W (Rd.mono h0 (hW.at (i := 0) rfl))) (fun v3 m3 hv3 => ?_)
  subst hv3
  have hfa4 := sectCheck_range d0
  refine VO.as ?_
  refine VO.k5 0 1 2 3 4 ?_
  refine VC.seq ?_
  refine VC.rs ?_
  refine VO.mv ?_
  refine VO.y rfl (.neq rfl rfl) ?_
  refine VO.kp [102, 0] [(102, mone g1 (.cells [Value.int .i64 (d0.1), Value.int .i64 (d0.2.1), Value.slice p0_A2 (d0.2.2.length) (p0_c2)].toArray 24 (0, 0))), (0, wm W)] ?_
  refine VO.k6 0 1 2 3 4 12 ?_
  refine VC.cond rfl (fun hc5 => ?_) (fun hc5 => ?_)
  · -- T
    refine VC.rs ?_
    refine VO.mv ?_
    refine VO.as ?_
    refine VO.as ?_
    refine VO.k6 0 1 2 3 4 12 ?_
    refine VC.ret ?_
    refine outR ?_
    refine ⟨_, _, res_run (rs := [.tmp 2, .tmp 3]) rfl (.tmp rfl (.tmp rfl .nil)), fun W_ hI => out_of (l := []) hI [] rfl rfl (mle_refl _) (fun hS_ => ?_)⟩
    dsimp only [packV]
    have he0 : ((sectEncode d0).1 : Ty.Den (.sl .byte)) = [] := by first | rfl | (first | (rw [sectEncode_bad (by assumption)] <;> rfl) | (rw [sectEncode_good (by assumption)] <;> first | rfl | (dsimp only; rw [← hb, List.drop_of_length_le (by omega)]; simp [cFrames]; done) | (dsimp only; rw [he]; done)))
    refine ⟨Value.slice none (0) (0), ?_, ?_⟩
    rotate_left
    · rw [he0]; exact (Ow.nil _ _)
    all_goals (first | rfl | (first | (rw [sectEncode_bad (by assumption)] <;> rfl) | (rw [sectEncode_good (by assumption)] <;> first | rfl | (dsimp only; rw [← hb, List.drop_of_length_le (by omega)]; simp [cFrames]; done) | (dsimp only; rw [he]; done))))
  · -- F
    refine VC.skip ?_
    refine outN ?_
    refine VC.rs ?_
    refine VO.y rfl (.fa rfl tst24 rfl) ?_
    refine VO.y rfl (.ld1 102 rfl tk3 rfl (cellsAt_one rfl rfl)) ?_
    refine VO.callN 106 rfl fnOk57 rfl (fun W hW => rPut_ok W (Rd.nil _ _ none 0 (Nat.zero_le _)) d0.1 (by simp only [inK]; (exact fin0_s19Encode_ok)) (by exact fin0_s19Encode_ok) (by exact fin0_s19Encode_ok)) (fun v6 m6 hv6 => ?_)
    obtain ⟨s6_0, rfl, f6_0⟩ := hv6
    have hfa7 := venc_len (x := d0.1.toNat) (by omega)
    simp only [List.nil_append] at f6_0
    obtain ⟨A6_0, c6_0, eq6_0, l6_0, k6_0⟩ := f6_0.slice
    subst eq6_0
    simp only [maxLen] at k6_0
    refine VO.as ?_
    refine VO.k7 0 1 2 3 4 5 12 ?_
    refine VC.rs ?_
    refine VO.mv ?_
    refine VO.y rfl (.fa rfl tst24 rfl) ?_
    refine VO.y rfl (.ld1 102 rfl tk3 rfl (cellsAt_one rfl rfl)) ?_
    refine VO.callN 108 rfl fnOk57 rfl (fun W hW => rPut_ok W (OwnL.rd (Ow.ownl f6_0 rfl mnil) (hW.at (i := 106) rfl) (mle_nil _)) d0.2.1 (by simp only [inK]; (exact fin0_s19Encode_ok)) (by exact fin0_s19Encode_ok) (by exact fin0_s19Encode_ok)) (fun v8 m8 hv8 => ?_)
    obtain ⟨s8_0, rfl, f8_0⟩ := hv8
    have hfa9 := venc_len (x := d0.2.1.toNat) (by omega)
    obtain ⟨A8_0, c8_0, eq8_0, l8_0, k8_0⟩ := f8_0.slice
    subst eq8_0
    simp only [maxLen] at k8_0
    refine VO.as ?_
    refine VO.k7 0 1 2 3 4 5 12 ?_
    refine VC.rs ?_
    refine VO.mv ?_
    refine VO.y rfl (.fa rfl tst24 rfl) ?_
    refine VO.y rfl (.ld1 102 rfl tk22 rfl (cellsAt_one rfl rfl)) ?_
    refine VO.y rfl (.lenS rfl tsl22) ?_
    refine VO.callN 110 rfl fnOk57 rfl (fun W hW => rPut_ok W (OwnL.rd (Ow.ownl f8_0 rfl mnil) (hW.at (i := 108) rfl) (mle_nil _)) ((d0.2.2.length : Nat) : Int) (by simp only [inK]; (exact fin0_s19Encode_ok)) (by exact fin0_s19Encode_ok) (by exact fin0_s19Encode_ok)) (fun v10 m10 hv10 => ?_)
    obtain ⟨s10_0, rfl, f10_0⟩ := hv10
    have hfa11 := venc_len (x := ((d0.2.2.length : Nat) : Int).toNat) (by omega)
    obtain ⟨A10_0, c10_0, eq10_0, l10_0, k10_0⟩ := f10_0.slice
    subst eq10_0
    simp only [maxLen] at k10_0
    refine VO.as ?_
    refine VO.kp [110, 102, 0] [(110, m10), (102, mone g1 (.cells [Value.int .i64 (d0.1), Value.int .i64 (d0.2.1), Value.slice p0_A2 (d0.2.2.length) (p0_c2)].toArray 24 (0, 0))), (0, wm W)] ?_
    refine VO.k7 0 1 2 3 4 5 12 ?_
    refine VC.rs ?_
    refine VO.mv ?_
    refine VO.callN 112 rfl fnOk58 rfl (fun W hW => f9Append_ok W (Rd.nil _ _ none 0 (Nat.zero_le _)) (OwnL.rd (Ow.ownl f10_0 rfl mnil) (hW.at (i := 110) rfl) (mle_nil _)) (by exact fin0_s19Encode_ok)) (fun v12 m12 hv12 => ?_)
    obtain ⟨s12_0, rfl, f12_0⟩ := hv12
    have hfa13 := fAppend_len [] (((venc d0.1.toNat) ++ venc d0.2.1.toNat) ++ venc ((d0.2.2.length : Nat) : Int).toNat)
    have hfa14 := fAppend_range [] (((venc d0.1.toNat) ++ venc d0.2.1.toNat) ++ venc ((d0.2.2.length : Nat) : Int).toNat)
    obtain ⟨A12_0, c12_0, eq12_0, l12_0, k12_0⟩ := f12_0.slice
    subst eq12_0
    simp only [maxLen] at k12_0
    refine VO.mv ?_
    refine VO.y rfl (.ext rfl rfl) ?_
    refine VO.y rfl (.ext rfl rfl) ?_
    refine VO.as ?_
    refine VO.as ?_
    refine VO.k8 0 1 2 3 4 5 6 12 ?_
    refine VC.seq ?_
    refine VC.rs ?_
    refine VO.as ?_
    refine VO.k9 0 1 2 3 4 5 6 8 12 ?_
    refine VC.block ?_
    refine VC.loop (G := Nat × (List UInt8) × (Option Addr) × Nat × Mem) (fun g => [(6, Value.slice (g.2.2.1) ((g.2.1).length) ((g.2.2.2.1))), (8, Value.int .i64 ((((g.1) : Nat) : Int))), (0, Value.agg [Value.int .i64 (d0.1), Value.int .i64 (d0.2.1), Value.slice p0_A2 (d0.2.2.length) (p0_c2)].toArray), (1, Value.pointer (some ⟨g1, 0, none⟩)), (2, Value.slice none (0) (0)), (3, Value.int .i64 (0)), (4, Value.int .i64 (sectCheck d0)), (5, Value.slice A10_0 ((((venc d0.1.toNat) ++ venc d0.2.1.toNat) ++ venc ((d0.2.2.length : Nat) : Int).toNat).length) (c10_0)), (12, Value.bool (decide (¬ (sectCheck d0) = 0)))]) (fun g => [(112, (g.2.2.2.2)), (110, m10), (102, mone g1 (.cells [Value.int .i64 (d0.1), Value.int .i64 (d0.2.1), Value.slice p0_A2 (d0.2.2.length) (p0_c2)].toArray 24 (0, 0))), (0, wm W)]) (fun g => ((g.1) ≤ d0.2.2.length) ∧ ((g.2.1) ++ cFrames (d0.2.2.drop (g.1)) = sectEnc d0) ∧ ((g.2.1).length ≤ 40 + 710 * (g.1)) ∧ (OwnL .byte (g.2.2.2.2) mnil (.slice (g.2.2.1) (g.2.1).length (g.2.2.2.1)) (g.2.1))) (fun g => d0.2.2.length - (g.1)) (0, (fAppend [] (((venc d0.1.toNat) ++ venc d0.2.1.toNat) ++ venc ((d0.2.2.length : Nat) : Int).toNat)).1, A12_0, c12_0, m12) (⟨by omega, by exact senc_head1 (Decidable.not_not.1 ‹¬ ¬ sectCheck d0 = 0›), by exact senc_head2 (Decidable.not_not.1 ‹¬ ¬ sectCheck d0 = 0›), (Ow.ownl f12_0 rfl mnil)⟩) ⟨⟨rfl, rfl, rfl, rfl, rfl, rfl, rfl, rfl, rfl, trivial⟩, fun _ h => h.sub [112, 110, 102, 0]⟩ ?_
    rintro ⟨k, b, b_A, b_c, b_m⟩ ⟨hk, hb, hl, h_b⟩
    replace hk : k ≤ d0.2.2.length := hk
    replace hb : b ++ cFrames (d0.2.2.drop k) = sectEnc d0 := hb
    replace hl : b.length ≤ 40 + 710 * k := hl
    replace h_b : OwnL .byte b_m mnil (.slice b_A b.length b_c) b := h_b
    show VC _ _ _ _ _ [(6, Value.slice b_A (b.length) (b_c)), (8, Value.int .i64 (((k : Nat) : Int))), (0, Value.agg [Value.int .i64 (d0.1), Value.int .i64 (d0.2.1), Value.slice p0_A2 (d0.2.2.length) (p0_c2)].toArray), (1, Value.pointer (some ⟨g1, 0, none⟩)), (2, Value.slice none (0) (0)), (3, Value.int .i64 (0)), (4, Value.int .i64 (sectCheck d0)), (5, Value.slice A10_0 ((((venc d0.1.toNat) ++ venc d0.2.1.toNat) ++ venc ((d0.2.2.length : Nat) : Int).toNat).length) (c10_0)), (12, Value.bool (decide (¬ (sectCheck d0) = 0)))] [(112, b_m), (110, m10), (102, mone g1 (.cells [Value.int .i64 (d0.1), Value.int .i64 (d0.2.1), Value.slice p0_A2 (d0.2.2.length) (p0_c2)].toArray 24 (0, 0))), (0, wm W)]
    have l_b : b.length ≤ b_c := by obtain ⟨_, _, he, hl, _⟩ := h_b.slice; simp only [Value.slice.injEq] at he; omega
    have k_b : b_c ≤ 9223372036854775807 := by obtain ⟨_, _, he, _, hl⟩ := h_b.slice; simp only [Value.slice.injEq, maxLen] at he hl; omega
    refine VC.seq ?_
    refine VC.rs ?_
    refine VO.mv ?_
    refine VO.y rfl (.fa rfl tst24 rfl) ?_
    refine VO.y rfl (.ld1 102 rfl tk22 rfl (cellsAt_one rfl rfl)) ?_
    refine VO.y rfl (.lenS rfl tsl22) ?_
    refine VO.y rfl (.lss rfl rfl) ?_
    refine VO.kp [112, 110, 102, 0] [(112, b_m), (110, m10), (102, mone g1 (.cells [Value.int .i64 (d0.1), Value.int .i64 (d0.2.1), Value.slice p0_A2 (d0.2.2.length) (p0_c2)].toArray 24 (0, 0))), (0, wm W)] ?_
    refine VO.k10 0 1 2 3 4 5 6 8 12 35 ?_
    refine VC.cond rfl (fun hc15 => ?_) (fun hc15 => ?_)
    · -- FT
      refine VC.skip ?_
      refine outN ?_
      refine VC.seq ?_
      refine VC.block ?_
      refine VC.reg ?_
      refine VO.mv ?_
      refine VO.y rfl (.fa rfl tst24 rfl) ?_
      refine VO.y rfl (.ld1 102 rfl tk22 rfl (cellsAt_one rfl rfl)) ?_
      refine VO.mv ?_
      obtain ⟨x16, hx16⟩ : ∃ z_, (d0.2.2)[k]? = some z_ := ⟨_, List.getElem?_eq_getElem (by exact fin0_s19Encode_ok)⟩
      obtain ⟨gg16, oo16, ec16, ea16, hce16, hre16⟩ := p0_2.elem hx16
      cases ea16
      obtain ⟨q16_A2, q16_c2, rfl, q16_0, q16_1, q16_2⟩ := open_Commit (x0 := x16.1) (x1 := x16.2.1) (x2 := x16.2.2) hre16
      simp only [inK] at q16_0
      simp only [inK] at q16_1
      have q16_r2 := Rd.room q16_2
      refine VO.y rfl (.ixI k rfl rfl tsl22 rfl (by exact fin0_s19Encode_ok)) ?_
      refine VO.y rfl (.ldA 0 rfl tk32 rfl hce16) ?_
      refine VO.callN 117 rfl fnOk59 rfl (fun W hW => c12Frame_ok W (Rd.mono hre16 (hW.at (i := 0) rfl))) (fun v17 m17 hv17 => ?_)
      obtain ⟨s17_0, rfl, f17_0⟩ := hv17
      have hfa18 := frameC_len x16
      obtain ⟨A17_0, c17_0, eq17_0, l17_0, k17_0⟩ := f17_0.slice
      subst eq17_0
      simp only [maxLen] at k17_0
      obtain ⟨mo19, cs19, hM19, hA19, hC19⟩ := h_b
      obtain ⟨all19, hS19, hR19⟩ := Rd.srcI (P := Try.prog) ((OwnL.rd (Ow.ownl f17_0 rfl mnil) (mle_refl _) (mle_nil _))) Try.underlying25
      refine VO.app 112 rfl rfl rfl tsl25 tz5 rfl rfl hM19 hA19 (hS19 _ 117 rfl) hR19.nice (by simp only [maxLen]; (exact fin0_s19Encode_ok)) (by exact fin0_s19Encode_ok) (by decide) (fun v19 m19 hN19 => ?_)
      have ho19 : OwnL .byte m19 mnil v19 (b ++ (frameC x16)) := OwnL.more hC19 hN19 (All2c.mono hR19 fun _ _ h => Rd.flat rfl h _)
      obtain ⟨A19, c19, rfl, l19, k19⟩ := ho19.slice
      simp only [maxLen] at k19
      refine VO.as ?_
      refine VO.k10 0 1 2 3 4 5 6 8 12 35 ?_
      refine outBN ?_
      refine outN ?_
      refine VC.reg ?_
      refine VO.mv ?_
      refine VO.y rfl (.add (c := ((k + 1 : Nat) : Int)) rfl rfl (by omega) ⟨by exact fin0_s19Encode_ok, by exact fin0_s19Encode_ok⟩) ?_
      refine VO.as ?_
      refine VO.k10 0 1 2 3 4 5 6 8 12 35 ?_
      exact outN ⟨⟨k + 1, b ++ (frameC x16), A19, c19, m19⟩, ⟨by omega, by exact senc_step3 (Decidable.not_not.1 ‹¬ ¬ sectCheck d0 = 0›) hb ‹d0.2.2[k]? = some _›, by exact senc_step4 (Decidable.not_not.1 ‹¬ ¬ sectCheck d0 = 0›) hl ‹d0.2.2[k]? = some _›, ho19⟩, by exact fin0_s19Encode_ok, ⟨⟨rfl, rfl, rfl, rfl, rfl, rfl, rfl, rfl, rfl, trivial⟩, fun _ h => Inv.sub h [112, 110, 102, 0]⟩⟩
    · -- FF
      refine VC.exit ?_
      refine outE ?_
      refine outE ?_
      refine outBB ?_
      refine outN ?_
      refine VC.rs ?_
      refine VO.mv ?_
      refine VO.as ?_
      refine VO.as ?_
      refine VO.k10 0 1 2 3 4 5 6 8 12 35 ?_
      refine VC.ret ?_
      refine ⟨_, _, res_run (rs := [.tmp 2, .tmp 3]) rfl (.tmp rfl (.tmp rfl .nil)), fun W_ hI => out_of (l := [b_m]) hI [112] rfl rfl (mle_refl _) (fun hS_ => ?_)⟩
      dsimp only [packV]
      have he0 : ((sectEncode d0).1 : Ty.Den (.sl .byte)) = b := by first | rfl | (first | (rw [sectEncode_bad (by assumption)] <;> rfl) | (rw [sectEncode_good (by assumption)] <;> first | rfl | (dsimp only; rw [← hb, List.drop_of_length_le (by omega)]; simp [cFrames]; done) | (dsimp only; rw [he]; done)))
      refine ⟨Value.slice b_A (b.length) (b_c), ?_, ?_⟩
      rotate_left
      · rw [he0]; exact (Ow.up (OwnL.ow h_b rfl) (hS_.1 _ (.head _)))
      all_goals (first | rfl | (first | (rw [sectEncode_bad (by assumption)] <;> rfl) | (rw [sectEncode_good (by assumption)] <;> first | rfl | (dsimp only; rw [← hb, List.drop_of_length_le (by omega)]; simp [cFrames]; done) | (dsimp only; rw [he]; done))))
set_option maxHeartbeats 2000000 in
theorem head_ok (W : World) {v0 : Value} {d0 : List UInt8} (h0 : Rd (.sl .byte) (wm W) [v0] d0) : CallR Try.prog 92 [v0] W (mnil) (fun v m' => v = .tuple #[.agg [.int .i64 ((headS d0).1.1), .int .i64 ((headS d0).1.2.1), .slice none 0 0].toArray, .int .i64 ((headS d0).2.1), .bool ((headS d0).2.2)]) := by
  obtain ⟨A0, c0, rfl, l0, k0⟩ := h0.slice
  simp only [maxLen] at k0
  refine CallR.ofA (n := 39) Try.func92 rfl rfl rfl ?_
  refine VC.rs ?_
  refine VO.alloc 102 rfl tz24 (fun g1 => ?_)
  refine VO.as ?_
  refine VO.as ?_
  refine VO.k4 0 2 3 4 ?_
  refine VC.rs ?_
  refine VO.alloc 104 rfl tz80 (fun g3 => ?_)
  refine VO.k5 0 2 3 4 5 ?_
  refine VC.seq ?_
  refine VC.rs ?_
  refine VO.mv ?_
  refine VO.kp [104, 102, 0] [(104, mone g3 (.cells [Value.int .i64 (0), Value.int .i64 (0), Value.int .i64 (0)].toArray 80 (0, 0))), (102, mone g1 (.cells [Value.int .i64 (0), Value.int .i64 (0), Value.slice none (0) (0)].toArray 24 (0, 0))), (0, wm W)] ?_
  refine VO.k6 0 2 3 4 5 10 ?_
  refine VC.block ?_
  refine VC.rounds 5 (VRounds.step ?_)
  refine VC.rs ?_
  refine VO.y rfl (.lss rfl rfl) ?_
  refine VO.k7 0 2 3 4 5 10 11 ?_
  refine VC.seq ?_
  refine VC.condKT rfl (decide_eq_true (by decide)) ?_
  refine VC.skip ?_
  refine outN ?_
  refine VC.seq ?_
  refine VC.block ?_
  refine VC.rs ?_
  refine VO.mv ?_
  refine VO.as ?_
  refine VO.k8 0 2 3 4 5 6 10 11 ?_
  refine VC.rs ?_
  refine VO.mv ?_
  refine VO.callN 105 rfl fnOk111 rfl (fun W hW => vSmall_ok W (Rd.mono h0 (hW.at (i := 0) rfl)) 1048576 bdk) (fun v5 m5 hv5 => ?_)
  subst hv5
  have hfa6 := s_bounds d0 1048576 (by omega)
  refine VO.mv ?_
  refine VO.y rfl (.ext rfl rfl) ?_
  refine VO.y rfl (.ext rfl rfl) ?_
  refine VO.y rfl (.ext rfl rfl) ?_
  refine VO.as ?_
  refine VO.as ?_
  refine VO.as ?_
  refine VO.kp [104, 102, 0] [(104, mone g3 (.cells [Value.int .i64 (0), Value.int .i64 (0), Value.int .i64 (0)].toArray 80 (0, 0))), (102, mone g1 (.cells [Value.int .i64 (0), Value.int .i64 (0), Value.slice none (0) (0)].toArray 24 (0, 0))), (0, wm W)] ?_
  refine VO.k11 0 2 3 4 5 6 7 8 9 10 11 ?_
  refine VC.seq ?_
  refine VC.rs ?_
  refine VO.mv ?_
  refine VO.y rfl (.neq rfl rfl) ?_
  refine VO.k12 0 2 3 4 5 6 7 8 9 10 11 20 ?_
  refine VC.cond rfl (fun hc7 => ?_) (fun hc7 => ?_)
  · -- RT
    refine VC.rs ?_
    refine VO.y rfl (.bst (cs := [Value.int .i64 (0), Value.int .i64 (0), Value.slice none (0) (0)]) rfl tst24 tz24 rfl) ?_
    refine VO.store (k := 3) (c' := [Value.int .i64 (0), Value.int .i64 (0), Value.slice none (0) (0)]) 102 rfl rfl (.inl tk24) rfl rfl rfl rfl rfl ?_
    refine VO.as ?_
    refine VO.as ?_
    refine VO.k12 0 2 3 4 5 6 7 8 9 10 11 20 ?_
    refine VC.ret ?_
    refine outR ?_
    refine outBR ?_
    refine outR ?_
    refine outR ?_
    refine outBR ?_
    refine outR ?_
    refine ⟨_, _, res_run (rs := [.cell 2 24, .tmp 3, .tmp 4]) rfl (.agg 102 rfl tk24 rfl ⟨_, _, _, mone_self _ _, Nat.le_of_ble_eq_true rfl, rfl⟩ (.tmp rfl (.tmp rfl .nil))), fun W_ hI => out_of (l := []) hI [] rfl rfl (mle_refl _) (fun hS_ => ?_)⟩
    dsimp only [packV]
    all_goals (first | rfl | (first | (rw [headS_no1 (by assumption)] <;> rfl) | (rw [headS_x2 (by assumption)] <;> rfl) | (rw [headS_x3 (by assumption)] <;> rfl) | (rw [headS_x4 (by assumption) (by assumption) (by assumption)] <;> first | rfl | (simp only [List.length_drop]; done) | (simp only [List.length_drop]; congr 4 <;> (apply decide_eq_decide.2; omega)))))
  · -- RF
    refine VC.skip ?_
    refine outN ?_
    refine VC.inv _ (fun _ h => Inv.num h 104 2104 rfl) ?_
    refine VC.regD _ 7 [(0, true), (1, true), (2, true), (3, true), (4, true), (5, true), (6, false)] follows (by kernel_rfl) (fun _ h => h.sub [2104, 102, 0]) ?_
    refine VD.y rfl rfl (.inl rfl) (.mv rfl) ?_
    refine VD.y rfl rfl (.inl rfl) (.mv rfl) ?_
    refine VD.y rfl rfl (.inl rfl) (.mv rfl) ?_
    refine VD.y rfl rfl (.inl rfl) (.mv rfl) ?_
    obtain ⟨A8, hA8, hs8⟩ := h0.drop 1 (sN d0 1048576) rfl bd
    refine VD.y rfl rfl (.inl rfl) (.slLI (sN d0 1048576) A8 rfl rfl tsl25 rfl hA8 bd) ?_
    refine VD.y rfl rfl (.inl rfl) (.ixa (i := 0) (o := 0) rfl rfl tar80 rfl rfl rfl) ?_
    refine VD.storeH (k := 1) (c' := [Value.int .i64 (((sX d0 1048576 : Nat) : Int)), Value.int .i64 (0), Value.int .i64 (0)]) 2104 rfl rfl rfl (.inr ⟨tk3, rfl⟩) rfl rfl rfl rfl rfl (fun _ h => h.sub [102, 0]) ?_
    refine VD.nil rfl ?_ rfl
    refine VO.as ?_
    refine VO.k12 0 2 3 4 5 6 7 8 9 10 11 20 ?_
    refine outBN ?_
    refine outN ?_
    refine VC.reg ?_
    refine VO.y rfl (.add (c := ((1 : Nat) : Int)) rfl rfl (by omega) ⟨bd, bd⟩) ?_
    refine VO.mv ?_
    refine VO.kp [2104, 102, 0] [(2104, mone g3 (.cells [Value.int .i64 (((sX d0 1048576 : Nat) : Int)), Value.int .i64 (0), Value.int .i64 (0)].toArray 80 (0, 0))), (102, mone g1 (.cells [Value.int .i64 (0), Value.int .i64 (0), Value.slice none (0) (0)].toArray 24 (0, 0))), (0, wm W)] ?_
    refine VO.k12 0 2 3 4 5 6 7 8 9 10 11 20 ?_
    refine outN (VRounds.step ?_)
    refine VC.rs ?_
    refine VO.y rfl (.lss rfl rfl) ?_
    refine VO.k12 0 2 3 4 5 6 7 8 9 10 11 20 ?_
    refine VC.seq ?_
    refine VC.condKT rfl (decide_eq_true (by decide)) ?_
    refine VC.skip ?_
    refine outN ?_
    refine VC.seq ?_
    refine VC.block ?_
    refine VC.rs ?_
    refine VO.mv ?_
    refine VO.as ?_
    refine VO.k12 0 2 3 4 5 6 7 8 9 10 11 20 ?_
    refine VC.rs ?_
    refine VO.mv ?_
    refine VO.callN 109 rfl fnOk111 rfl (fun W hW => vSmall_ok W (Rd.mono hs8 (hW.at (i := 0) rfl)) 1048576 bdk) (fun v9 m9 hv9 => ?_)
    subst hv9
    have hfa10 := s_bounds (d0.drop (sN d0 1048576)) 1048576 (by omega)
    refine VO.mv ?_
    refine VO.y rfl (.ext rfl rfl) ?_
    refine VO.y rfl (.ext rfl rfl) ?_
    refine VO.y rfl (.ext rfl rfl) ?_
    refine VO.as ?_
    refine VO.as ?_
    refine VO.as ?_
    refine VO.kp [2104, 102, 0] [(2104, mone g3 (.cells [Value.int .i64 (((sX d0 1048576 : Nat) : Int)), Value.int .i64 (0), Value.int .i64 (0)].toArray 80 (0, 0))), (102, mone g1 (.cells [Value.int .i64 (0), Value.int .i64 (0), Value.slice none (0) (0)].toArray 24 (0, 0))), (0, wm W)] ?_
    refine VO.k12 0 2 3 4 5 6 7 8 9 10 11 20 ?_
    refine VC.seq ?_
    refine VC.rs ?_
    refine VO.mv ?_
    refine VO.y rfl (.neq rfl rfl) ?_
    refine VO.k12 0 2 3 4 5 6 7 8 9 10 11 20 ?_
    refine VC.cond rfl (fun hc11 => ?_) (fun hc11 => ?_)
    · -- RFRT
      refine VC.rs ?_
      refine VO.y rfl (.bst (cs := [Value.int .i64 (0), Value.int .i64 (0), Value.slice none (0) (0)]) rfl tst24 tz24 rfl) ?_
      refine VO.store (k := 3) (c' := [Value.int .i64 (0), Value.int .i64 (0), Value.slice none (0) (0)]) 102 rfl rfl (.inl tk24) rfl rfl rfl rfl rfl ?_
      refine VO.as ?_
      refine VO.as ?_
      refine VO.k12 0 2 3 4 5 6 7 8 9 10 11 20 ?_
      refine VC.ret ?_
      refine outR ?_
      refine outBR ?_
      refine outR ?_
      refine outR ?_
      refine outBR ?_
      refine outR ?_
      refine ⟨_, _, res_run (rs := [.cell 2 24, .tmp 3, .tmp 4]) rfl (.agg 102 rfl tk24 rfl ⟨_, _, _, mone_self _ _, Nat.le_of_ble_eq_true rfl, rfl⟩ (.tmp rfl (.tmp rfl .nil))), fun W_ hI => out_of (l := []) hI [] rfl rfl (mle_refl _) (fun hS_ => ?_)⟩
      dsimp only [packV]
      all_goals (first | rfl | (first | (rw [headS_no1 (by assumption)] <;> rfl) | (rw [headS_x2 (by assumption)] <;> rfl) | (rw [headS_x3 (by assumption)] <;> rfl) | (rw [headS_x4 (by assumption) (by assumption) (by assumption)] <;> first | rfl | (simp only [List.length_drop]; done) | (simp only [List.length_drop]; congr 4 <;> (apply decide_eq_decide.2; omega)))))
    · -- RFRF
      refine VC.skip ?_
      refine outN ?_
      refine VC.regD _ 7 [(0, true), (1, true), (2, true), (3, true), (4, true), (5, true), (6, false)] follows (by kernel_rfl) (fun _ h => h.sub [2104, 102, 0]) ?_
      refine VD.y rfl rfl (.inl rfl) (.mv rfl) ?_
      refine VD.y rfl rfl (.inl rfl) (.mv rfl) ?_
      refine VD.y rfl rfl (.inl rfl) (.mv rfl) ?_
      refine VD.y rfl rfl (.inl rfl) (.mv rfl) ?_
      obtain ⟨A12, hA12, hs12⟩ := hs8.drop 1 (sN (d0.drop (sN d0 1048576)) 1048576) rfl bd
      replace hs12 := Rd.relen (k := (d0.length - (sN d0 1048576)) - (sN (d0.drop (sN d0 1048576)) 1048576)) hs12 (by simp only [List.length_drop, List.length_take]; try omega)
      refine VD.y rfl rfl (.inl rfl) (.slLI (sN (d0.drop (sN d0 1048576)) 1048576) A12 rfl rfl tsl25 rfl hA12 bd) ?_
      refine VD.y rfl rfl (.inl rfl) (.ixa (i := 1) (o := 1) rfl rfl tar80 rfl rfl rfl) ?_
      refine VD.storeH (k := 1) (c' := [Value.int .i64 (((sX d0 1048576 : Nat) : Int)), Value.int .i64 (((sX (d0.drop (sN d0 1048576)) 1048576 : Nat) : Int)), Value.int .i64 (0)]) 2104 rfl rfl rfl (.inr ⟨tk3, rfl⟩) rfl rfl rfl rfl rfl (fun _ h => h.sub [102, 0]) ?_
      refine VD.nil rfl ?_ rfl
      refine VO.as ?_
      refine VO.k12 0 2 3 4 5 6 7 8 9 10 11 20 ?_
      refine outBN ?_
      refine outN ?_
      refine VC.reg ?_
      refine VO.y rfl (.add (c := ((2 : Nat) : Int)) rfl rfl (by omega) ⟨bd, bd⟩) ?_
      refine VO.mv ?_
      refine VO.kp [2104, 102, 0] [(2104, mone g3 (.cells [Value.int .i64 (((sX d0 1048576 : Nat) : Int)), Value.int .i64 (((sX (d0.drop (sN d0 1048576)) 1048576 : Nat) : Int)), Value.int .i64 (0)].toArray 80 (0, 0))), (102, mone g1 (.cells [Value.int .i64 (0), Value.int .i64 (0), Value.slice none (0) (0)].toArray 24 (0, 0))), (0, wm W)] ?_
      refine VO.k12 0 2 3 4 5 6 7 8 9 10 11 20 ?_
      refine outN (VRounds.step ?_)
      refine VC.rs ?_
      refine VO.y rfl (.lss rfl rfl) ?_
      refine VO.k12 0 2 3 4 5 6 7 8 9 10 11 20 ?_
      refine VC.seq ?_
      refine VC.condKT rfl (decide_eq_true (by decide)) ?_
      refine VC.skip ?_
      refine outN ?_
      refine VC.seq ?_
      refine VC.block ?_
      refine VC.rs ?_
      refine VO.mv ?_
      refine VO.as ?_
      refine VO.k12 0 2 3 4 5 6 7 8 9 10 11 20 ?_
      refine VC.rs ?_
      refine VO.mv ?_
      refine VO.callN 113 rfl fnOk111 rfl (fun W hW => vSmall_ok W (Rd.mono hs12 (hW.at (i := 0) rfl)) 1048576 bdk) (fun v13 m13 hv13 => ?_)
      subst hv13
      have hfa14 := s_bounds ((d0.drop (sN d0 1048576)).drop (sN (d0.drop (sN d0 1048576)) 1048576)) 1048576 (by omega)
      refine VO.mv ?_
      refine VO.y rfl (.ext rfl rfl) ?_
      refine VO.y rfl (.ext rfl rfl) ?_
      refine VO.y rfl (.ext rfl rfl) ?_
      refine VO.as ?_
      refine VO.as ?_
      refine VO.as ?_
      refine VO.kp [2104, 102, 0] [(2104, mone g3 (.cells [Value.int .i64 (((sX d0 1048576 : Nat) : Int)), Value.int .i64 (((sX (d0.drop (sN d0 1048576)) 1048576 : Nat) : Int)), Value.int .i64 (0)].toArray 80 (0, 0))), (102, mone g1 (.cells [Value.int .i64 (0), Value.int .i64 (0), Value.slice none (0) (0)].toArray 24 (0, 0))), (0, wm W)] ?_
      refine VO.k12 0 2 3 4 5 6 7 8 9 10 11 20 ?_
      refine VC.seq ?_
      refine VC.rs ?_
      refine VO.mv ?_
      refine VO.y rfl (.neq rfl rfl) ?_
      refine VO.k12 0 2 3 4 5 6 7 8 9 10 11 20 ?_
      refine VC.cond rfl (fun hc15 => ?_) (fun hc15 => ?_)
      · -- RFRFRT
        refine VC.rs ?_
        refine VO.y rfl (.bst (cs := [Value.int .i64 (0), Value.int .i64 (0), Value.slice none (0) (0)]) rfl tst24 tz24 rfl) ?_
        refine VO.store (k := 3) (c' := [Value.int .i64 (0), Value.int .i64 (0), Value.slice none (0) (0)]) 102 rfl rfl (.inl tk24) rfl rfl rfl rfl rfl ?_
        refine VO.as ?_
        refine VO.as ?_
        refine VO.k12 0 2 3 4 5 6 7 8 9 10 11 20 ?_
        refine VC.ret ?_
        refine outR ?_
        refine outBR ?_
        refine outR ?_
        refine outR ?_
        refine outBR ?_
        refine outR ?_
        refine ⟨_, _, res_run (rs := [.cell 2 24, .tmp 3, .tmp 4]) rfl (.agg 102 rfl tk24 rfl ⟨_, _, _, mone_self _ _, Nat.le_of_ble_eq_true rfl, rfl⟩ (.tmp rfl (.tmp rfl .nil))), fun W_ hI => out_of (l := []) hI [] rfl rfl (mle_refl _) (fun hS_ => ?_)⟩
        dsimp only [packV]
        all_goals (first | rfl | (first | (rw [headS_no1 (by assumption)] <;> rfl) | (rw [headS_x2 (by assumption)] <;> rfl) | (rw [headS_x3 (by assumption)] <;> rfl) | (rw [headS_x4 (by assumption) (by assumption) (by assumption)] <;> first | rfl | (simp only [List.length_drop]; done) | (simp only [List.length_drop]; congr 4 <;> (apply decide_eq_decide.2; omega)))))
      · -- RFRFRF
        refine VC.skip ?_
        refine outN ?_
        refine VC.regD _ 7 [(0, true), (1, true), (2, true), (3, true), (4, true), (5, true), (6, false)] follows (by kernel_rfl) (fun _ h => h.sub [2104, 102, 0]) ?_
        refine VD.y rfl rfl (.inl rfl) (.mv rfl) ?_
        refine VD.y rfl rfl (.inl rfl) (.mv rfl) ?_
        refine VD.y rfl rfl (.inl rfl) (.mv rfl) ?_
        refine VD.y rfl rfl (.inl rfl) (.mv rfl) ?_
        obtain ⟨A16, hA16, hs16⟩ := hs12.drop 1 (sN ((d0.drop (sN d0 1048576)).drop (sN (d0.drop (sN d0 1048576)) 1048576)) 1048576) rfl bd
        replace hs16 := Rd.relen (k := ((d0.length - (sN d0 1048576)) - (sN (d0.drop (sN d0 1048576)) 1048576)) - (sN ((d0.drop (sN d0 1048576)).drop (sN (d0.drop (sN d0 1048576)) 1048576)) 1048576)) hs16 (by simp only [List.length_drop, List.length_take]; try omega)
        refine VD.y rfl rfl (.inl rfl) (.slLI (sN ((d0.drop (sN d0 1048576)).drop (sN (d0.drop (sN d0 1048576)) 1048576)) 1048576) A16 rfl rfl tsl25 rfl hA16 bd) ?_
        refine VD.y rfl rfl (.inl rfl) (.ixa (i := 2) (o := 2) rfl rfl tar80 rfl rfl rfl) ?_
        refine VD.storeH (k := 1) (c' := [Value.int .i64 (((sX d0 1048576 : Nat) : Int)), Value.int .i64 (((sX (d0.drop (sN d0 1048576)) 1048576 : Nat) : Int)), Value.int .i64 (((sX ((d0.drop (sN d0 1048576)).drop (sN (d0.drop (sN d0 1048576)) 1048576)) 1048576 : Nat) : Int))]) 2104 rfl rfl rfl (.inr ⟨tk3, rfl⟩) rfl rfl rfl rfl rfl (fun _ h => h.sub [102, 0]) ?_
        refine VD.nil rfl ?_ rfl
        refine VO.as ?_
        refine VO.k12 0 2 3 4 5 6 7 8 9 10 11 20 ?_
        refine outBN ?_
        refine outN ?_
        refine VC.reg ?_
        refine VO.y rfl (.add (c := ((3 : Nat) : Int)) rfl rfl (by omega) ⟨bd, bd⟩) ?_
        refine VO.mv ?_
        refine VO.kp [2104, 102, 0] [(2104, mone g3 (.cells [Value.int .i64 (((sX d0 1048576 : Nat) : Int)), Value.int .i64 (((sX (d0.drop (sN d0 1048576)) 1048576 : Nat) : Int)), Value.int .i64 (((sX ((d0.drop (sN d0 1048576)).drop (sN (d0.drop (sN d0 1048576)) 1048576)) 1048576 : Nat) : Int))].toArray 80 (0, 0))), (102, mone g1 (.cells [Value.int .i64 (0), Value.int .i64 (0), Value.slice none (0) (0)].toArray 24 (0, 0))), (0, wm W)] ?_
        refine VO.k12 0 2 3 4 5 6 7 8 9 10 11 20 ?_
        refine outN (VRounds.step ?_)
        refine VC.rs ?_
        refine VO.y rfl (.lss rfl rfl) ?_
        refine VO.k12 0 2 3 4 5 6 7 8 9 10 11 20 ?_
        refine VC.seq ?_
        refine VC.condKF rfl (decide_eq_false (by decide)) ?_
        refine VC.exit ?_
        refine outE ?_
        refine outE ?_
        refine outBB ?_
        refine outN ?_
        refine VC.seq ?_
        refine VC.inv _ (fun _ h => Inv.num h 2104 104 rfl) ?_
        refine VC.inv _ (fun _ h => Inv.num h 102 2102 rfl) ?_
        refine VC.regD _ 12 [(0, true), (1, true), (2, true), (3, true), (4, true), (5, true), (6, true), (7, true), (8, true), (9, true), (10, false), (11, true)] follows (by kernel_rfl) (fun _ h => h.sub [104, 2102, 0]) ?_
        refine VD.y rfl rfl (.inl rfl) (.ixa (i := 0) (o := 0) rfl rfl tar80 rfl rfl rfl) ?_
        refine VD.y rfl rfl (.inl rfl) (.ld1 104 rfl tk3 rfl (cellsAt_one rfl rfl)) ?_
        refine VD.y rfl rfl (.inl rfl) (.ixa (i := 1) (o := 1) rfl rfl tar80 rfl rfl rfl) ?_
        refine VD.y rfl rfl (.inl rfl) (.ld1 104 rfl tk3 rfl (cellsAt_one rfl rfl)) ?_
        refine VD.y rfl rfl (.inl rfl) (.bst (cs := [Value.int .i64 (((sX d0 1048576 : Nat) : Int)), Value.int .i64 (((sX (d0.drop (sN d0 1048576)) 1048576 : Nat) : Int)), Value.slice none (0) (0)]) rfl tst24 tz24 rfl) ?_
        refine VD.y rfl rfl (.inl rfl) (.ixa (i := 2) (o := 2) rfl rfl tar80 rfl rfl rfl) ?_
        refine VD.y rfl rfl (.inl rfl) (.ld1 104 rfl tk3 rfl (cellsAt_one rfl rfl)) ?_
        refine VD.y rfl rfl (.inl rfl) (.mv rfl) ?_
        refine VD.y rfl rfl (.inl rfl) (.lenS rfl tsl25) ?_
        refine VD.y rfl rfl (.inl rfl) (.eql rfl rfl) ?_
        refine VD.storeH (k := 3) (c' := [Value.int .i64 (((sX d0 1048576 : Nat) : Int)), Value.int .i64 (((sX (d0.drop (sN d0 1048576)) 1048576 : Nat) : Int)), Value.slice none (0) (0)]) 2102 rfl rfl rfl (.inl tk24) rfl rfl rfl rfl rfl (fun _ h => h.sub [104, 0]) ?_
        refine VD.y rfl rfl (.inl rfl) (.as rfl) ?_
        refine VD.nil rfl ?_ rfl
        refine VO.as ?_
        refine VO.k12 0 2 3 4 5 6 7 8 9 10 11 20 ?_
        refine outN ?_
        refine VC.ret ?_
        refine ⟨_, _, res_run (rs := [.cell 2 24, .tmp 3, .tmp 4]) rfl (.agg 2102 rfl tk24 rfl ⟨_, _, _, mone_self _ _, Nat.le_of_ble_eq_true rfl, rfl⟩ (.tmp rfl (.tmp rfl .nil))), fun W_ hI => out_of (l := []) hI [] rfl rfl (mle_refl _) (fun hS_ => ?_)⟩
        dsimp only [packV]
        all_goals (first | rfl | (first | (rw [headS_no1 (by assumption)] <;> rfl) | (rw [headS_x2 (by assumption)] <;> rfl) | (rw [headS_x3 (by assumption)] <;> rfl) | (rw [headS_x4 (by assumption) (by assumption) (by assumption)] <;> first | rfl | (simp only [List.length_drop]; done) | (simp only [List.length_drop]; congr 4 <;> (apply decide_eq_decide.2; omega)))))
theorem fin0_section_ok {P : Prop} (h : P := by first | (rw [sec_no1 (by assumption)] <;> rfl) | (rw [sec_no2 (by first | assumption | simpa using ‹_›)] <;> rfl) | (rw [sec_no3 (by assumption) (by simp [*]) (com_no1 hp (by omega) (by assumption))] <;> rfl) | (rw [sec_no3 (by assumption) (by simp [*]) (com_no2 hp (by omega) (by assumption) (by assumption))] <;> rfl) | (rw [sec_yes (by assumption) (by simp [*]) (com_end hp (by omega))] <;> first | rfl | (done))) : P := h
theorem fin1_section_ok {P : Prop} (h : P := by first | omega | (simp only [List.length_append, List.length_nil, List.length_cons, List.length_take, List.length_drop] at *; omega) | (have h_ := headS_range (fRead d0).1; omega)) : P := h
theorem section_ok (W : World) {v0 : Value} {d0 : List UInt8} (h0 : Rd (.sl .byte) (wm W) [v0] d0) : CallR Try.prog 60 [v0] W (mnil) (fun v m' => ∃ (s0 : List Value), v = .tuple #[.agg s0.toArray, .int .i64 ((secRead d0).2.1), .bool ((secRead d0).2.2)] ∧ Ow TSection m' s0 ((secRead d0).1)) := by
  obtain ⟨A0, c0, rfl, l0, k0⟩ := h0.slice
  simp only [maxLen] at k0
  refine CallR.ofA (n := 70) Try.func60 rfl rfl rfl ?_
  refine VC.rs ?_
  refine VO.alloc 102 rfl tz24 (fun g1 => ?_)
  refine VO.as ?_
  refine VO.as ?_
  refine VO.k4 0 2 3 4 ?_
  refine VC.rs ?_
  refine VO.mv ?_
  refine VO.callN 103 rfl fnOk91 rfl (fun W hW => fRead_ok W (Rd.mono h0 (hW.at (i := 0) rfl))) (fun v3 m3 hv3 => ?_)
  obtain ⟨s3_0, rfl, f3_0⟩ := hv3
  have hfa4 := fRead_bounds d0
  obtain ⟨A3_0, c3_0, eq3_0, l3_0, k3_0⟩ := f3_0.slice
  subst eq3_0
  simp only [maxLen] at k3_0
  refine VO.mv ?_
  refine VO.y rfl (.ext rfl rfl) ?_
  refine VO.y rfl (.ext rfl rfl) ?_
  refine VO.y rfl (.ext rfl rfl) ?_
  refine VO.as ?_
  refine VO.as ?_
  refine VO.as ?_
  refine VO.k7 0 2 3 4 5 6 7 ?_
  refine VC.seq ?_
  refine VC.rs ?_
  refine VO.mv ?_
  refine VO.y rfl (.neq rfl rfl) ?_
  refine VO.kp [103, 102, 0] [(103, m3), (102, mone g1 (.cells [Value.int .i64 (0), Value.int .i64 (0), Value.slice none (0) (0)].toArray 24 (0, 0))), (0, wm W)] ?_
  refine VO.k8 0 2 3 4 5 6 7 22 ?_
  refine VC.cond rfl (fun hc5 => ?_) (fun hc5 => ?_)
  · -- T
    refine VC.rs ?_
    refine VO.y rfl (.bst (cs := [Value.int .i64 (0), Value.int .i64 (0), Value.slice none (0) (0)]) rfl tst24 tz24 rfl) ?_
    refine VO.store (k := 3) (c' := [Value.int .i64 (0), Value.int .i64 (0), Value.slice none (0) (0)]) 102 rfl rfl (.inl tk24) rfl rfl rfl rfl rfl ?_
    refine VO.as ?_
    refine VO.as ?_
    refine VO.k8 0 2 3 4 5 6 7 22 ?_
    refine VC.ret ?_
    refine outR ?_
    refine ⟨_, _, res_run (rs := [.cell 2 24, .tmp 3, .tmp 4]) rfl (.agg 102 rfl tk24 rfl ⟨_, _, _, mone_self _ _, Nat.le_of_ble_eq_true rfl, rfl⟩ (.tmp rfl (.tmp rfl .nil))), fun W_ hI => out_of (l := []) hI [] rfl rfl (mle_refl _) (fun hS_ => ?_)⟩
    dsimp only [packV]
    have he0 : ((secRead d0).1 : Ty.Den TSection) = (0, 0, []) := by first | rfl | (exact fin0_section_ok)
    refine ⟨[Value.int .i64 (0), Value.int .i64 (0), Value.slice none (0) (0)], ?_, ?_⟩
    rotate_left
    · rw [he0]; exact (mkO_Section 0 0 [] (Seps.nilAt 0 hS_) (by simp only [inK]; (exact fin1_section_ok)) (by simp only [inK]; (exact fin1_section_ok)) (Ow.nil _ _))
    all_goals (first | rfl | (exact fin0_section_ok))
  · -- F
    refine VC.skip ?_
    refine outN ?_
    refine VC.rs ?_
    refine VO.mv ?_
    refine VO.callN 106 rfl fnOk92 rfl (fun W hW => head_ok W (OwnL.rd (Ow.ownl f3_0 rfl mnil) (hW.at (i := 103) rfl) (mle_nil _))) (fun v6 m6 hv6 => ?_)
    subst hv6
    have hfa7 := headS_range ((fRead d0).1)
    refine VO.mv ?_
    refine VO.y rfl (.ext rfl rfl) ?_
    refine VO.y rfl (.ext rfl rfl) ?_
    refine VO.y rfl (.ext rfl rfl) ?_
    refine VO.alloc 109 rfl tz24 (fun g8 => ?_)
    refine VO.store (k := 3) (c' := [Value.int .i64 ((headS ((fRead d0).1)).1.1), Value.int .i64 ((headS ((fRead d0).1)).1.2.1), Value.slice none (0) (0)]) 109 rfl rfl (.inl tk24) rfl rfl rfl rfl rfl ?_
    refine VO.as ?_
    refine VO.as ?_
    refine VO.k11 0 2 3 4 5 6 7 8 9 10 22 ?_
    refine VC.seq ?_
    refine VC.rs ?_
    refine VO.mv ?_
    refine VO.y rfl (.not rfl) ?_
    refine VO.k12 0 2 3 4 5 6 7 8 9 10 22 31 ?_
    refine VC.condBN rfl (fun hc10 => ?_) (fun hc10 => ?_)
    · -- FT
      refine VC.rs ?_
      refine VO.y rfl (.bst (cs := [Value.int .i64 (0), Value.int .i64 (0), Value.slice none (0) (0)]) rfl tst24 tz24 rfl) ?_
      refine VO.store (k := 3) (c' := [Value.int .i64 (0), Value.int .i64 (0), Value.slice none (0) (0)]) 102 rfl rfl (.inl tk24) rfl rfl rfl rfl rfl ?_
      refine VO.as ?_
      refine VO.as ?_
      refine VO.kp [109, 103, 102, 0] [(109, mone g8 (.cells [Value.int .i64 ((headS ((fRead d0).1)).1.1), Value.int .i64 ((headS ((fRead d0).1)).1.2.1), Value.slice none (0) (0)].toArray 24 (0, 0))), (103, m3), (102, mone g1 (.cells [Value.int .i64 (0), Value.int .i64 (0), Value.slice none (0) (0)].toArray 24 (0, 0))), (0, wm W)] ?_
      refine VO.k12 0 2 3 4 5 6 7 8 9 10 22 31 ?_
      refine VC.ret ?_
      refine outR ?_
      refine ⟨_, _, res_run (rs := [.cell 2 24, .tmp 3, .tmp 4]) rfl (.agg 102 rfl tk24 rfl ⟨_, _, _, mone_self _ _, Nat.le_of_ble_eq_true rfl, rfl⟩ (.tmp rfl (.tmp rfl .nil))), fun W_ hI => out_of (l := []) hI [] rfl rfl (mle_refl _) (fun hS_ => ?_)⟩
      dsimp only [packV]
      have he0 : ((secRead d0).1 : Ty.Den TSection) = (0, 0, []) := by first | rfl | (exact fin0_section_ok)
      refine ⟨[Value.int .i64 (0), Value.int .i64 (0), Value.slice none (0) (0)], ?_, ?_⟩
      rotate_left
      · rw [he0]; exact (mkO_Section 0 0 [] (Seps.nilAt 0 hS_) (by simp only [inK]; (exact fin1_section_ok)) (by simp only [inK]; (exact fin1_section_ok)) (Ow.nil _ _))
      all_goals (first | rfl | (exact fin0_section_ok))
    · -- FF
      refine VC.skip ?_
      refine outN ?_
      refine VC.seq ?_
      refine VC.rs ?_
      refine VO.mv ?_
      refine VO.mv ?_
      refine VO.kp [109, 103, 102, 0] [(109, mone g8 (.cells [Value.int .i64 ((headS ((fRead d0).1)).1.1), Value.int .i64 ((headS ((fRead d0).1)).1.2.1), Value.slice none (0) (0)].toArray 24 (0, 0))), (103, m3), (102, mone g1 (.cells [Value.int .i64 (0), Value.int .i64 (0), Value.slice none (0) (0)].toArray 24 (0, 0))), (0, wm W)] ?_
      refine VO.k14 0 2 3 4 5 6 7 8 9 10 22 31 33 34 ?_
      refine VC.block ?_
      refine VC.inv ((111, mnil) :: _) (fun _ h => h.nilc 111) ?_
      refine VC.loop (G := (List DCommit) × (Option Addr) × Nat × Mem × Int × Nat) (fun g => [(6, Value.int .i64 ((g.2.2.2.2.1))), (34, Value.int .i64 ((((g.2.2.2.2.2) : Nat) : Int))), (0, Value.slice A0 (d0.length) (c0)), (2, Value.pointer (some ⟨g1, 0, none⟩)), (5, Value.slice A3_0 (((fRead d0).1).length) (c3_0)), (7, Value.int .i64 ((fRead d0).2.2)), (8, Value.pointer (some ⟨g8, 0, none⟩)), (9, Value.int .i64 ((headS ((fRead d0).1)).2.1)), (10, Value.bool ((headS ((fRead d0).1)).2.2)), (22, Value.bool (decide (¬ ((fRead d0).2.2) = 0))), (31, Value.bool (!((headS ((fRead d0).1)).2.2))), (33, Value.int .i64 ((headS ((fRead d0).1)).2.1))]) (fun g => [(111, (g.2.2.2.1)), (109, mone g8 (.cells [Value.int .i64 ((headS ((fRead d0).1)).1.1), Value.int .i64 ((headS ((fRead d0).1)).1.2.1), Value.slice (g.2.1) ((g.1).length) ((g.2.2.1))].toArray 24 (0, 0))), (103, m3), (102, mone g1 (.cells [Value.int .i64 (0), Value.int .i64 (0), Value.slice none (0) (0)].toArray 24 (0, 0))), (0, wm W)]) (fun g => (comGo (headS (fRead d0).1).2.1.toNat d0 [] (fRead d0).2.1 = comGo ((headS (fRead d0).1).2.1.toNat - (g.2.2.2.2.2)) d0 (g.1) (g.2.2.2.2.1)) ∧ (0 ≤ (g.2.2.2.2.1) ∧ (g.2.2.2.2.1) ≤ d0.length) ∧ ((g.2.2.2.2.2) ≤ (headS (fRead d0).1).2.1.toNat) ∧ ((g.1).length = (g.2.2.2.2.2)) ∧ (Ow (.sl TCommit) (g.2.2.2.1) [.slice (g.2.1) (g.1).length (g.2.2.1)] (g.1))) (fun g => (headS (fRead d0).1).2.1.toNat - (g.2.2.2.2.2)) ([], none, 0, mnil, (fRead d0).2.1, 0) (⟨by rfl, by (dsimp only; omega), by (dsimp only; omega), by rfl, (Ow.nil TCommit mnil)⟩) ⟨⟨rfl, rfl, rfl, rfl, rfl, rfl, rfl, rfl, rfl, rfl, rfl, rfl, trivial⟩, fun _ h => h.sub [111, 109, 103, 102, 0]⟩ ?_
      rintro ⟨cs, cs_A, cs_c, cs_m, at_, j⟩ ⟨hp, ha0, hj, hl, h_cs⟩
      replace hp : comGo (headS (fRead d0).1).2.1.toNat d0 [] (fRead d0).2.1 = comGo ((headS (fRead d0).1).2.1.toNat - j) d0 cs at_ := hp
      replace ha0 : 0 ≤ at_ ∧ at_ ≤ d0.length := ha0
      replace hj : j ≤ (headS (fRead d0).1).2.1.toNat := hj
      replace hl : cs.length = j := hl
      replace h_cs : Ow (.sl TCommit) cs_m [.slice cs_A cs.length cs_c] cs := h_cs
      show VC _ _ _ _ _ [(6, Value.int .i64 (at_)), (34, Value.int .i64 (((j : Nat) : Int))), (0, Value.slice A0 (d0.length) (c0)), (2, Value.pointer (some ⟨g1, 0, none⟩)), (5, Value.slice A3_0 (((fRead d0).1).length) (c3_0)), (7, Value.int .i64 ((fRead d0).2.2)), (8, Value.pointer (some ⟨g8, 0, none⟩)), (9, Value.int .i64 ((headS ((fRead d0).1)).2.1)), (10, Value.bool ((headS ((fRead d0).1)).2.2)), (22, Value.bool (decide (¬ ((fRead d0).2.2) = 0))), (31, Value.bool (!((headS ((fRead d0).1)).2.2))), (33, Value.int .i64 ((headS ((fRead d0).1)).2.1))] [(111, cs_m), (109, mone g8 (.cells [Value.int .i64 ((headS ((fRead d0).1)).1.1), Value.int .i64 ((headS ((fRead d0).1)).1.2.1), Value.slice cs_A (cs.length) (cs_c)].toArray 24 (0, 0))), (103, m3), (102, mone g1 (.cells [Value.int .i64 (0), Value.int .i64 (0), Value.slice none (0) (0)].toArray 24 (0, 0))), (0, wm W)]
      have l_cs : cs.length ≤ cs_c := by obtain ⟨_, _, he, hl, _⟩ := h_cs.slice; simp only [Value.slice.injEq] at he; omega
      have k_cs : cs_c ≤ 9223372036854775807 := by obtain ⟨_, _, he, _, hl⟩ := h_cs.slice; simp only [Value.slice.injEq, maxLen] at he hl; omega
      have hr := headS_range (fRead d0).1
      refine VC.rs ?_
      refine VO.y rfl (.lss rfl rfl) ?_
      refine VO.k13 0 2 5 6 7 8 9 10 22 31 33 34 35 ?_
      refine VC.seq ?_
      refine VC.cond rfl (fun hc12 => ?_) (fun hc12 => ?_)
      · -- FFT
        refine VC.skip ?_
        refine outN ?_
        refine VC.seq ?_
        refine VC.block ?_
        refine VC.rs ?_
        refine VO.mv ?_
        refine VO.mv ?_
        obtain ⟨A13, hA13, hs13⟩ := h0.drop 1 ((at_).toNat) rfl (by exact fin1_section_ok)
        refine VO.y rfl (.slLI ((at_).toNat) A13 rfl rfl tsl25 (by exact fin1_section_ok) hA13 (by exact fin1_section_ok)) ?_
        refine VO.callN 114 rfl fnOk91 rfl (fun W hW => fRead_ok W (Rd.mono hs13 (hW.at (i := 0) rfl))) (fun v14 m14 hv14 => ?_)
        obtain ⟨s14_0, rfl, f14_0⟩ := hv14
        have hfa15 := fRead_bounds (d0.drop ((at_).toNat))
        obtain ⟨A14_0, c14_0, eq14_0, l14_0, k14_0⟩ := f14_0.slice
        subst eq14_0
        simp only [maxLen] at k14_0
        refine VO.mv ?_
        refine VO.y rfl (.ext rfl rfl) ?_
        refine VO.y rfl (.ext rfl rfl) ?_
        refine VO.y rfl (.ext rfl rfl) ?_
        refine VO.as ?_
        refine VO.as ?_
        refine VO.as ?_
        refine VO.k16 0 2 5 6 7 8 9 10 11 12 13 22 31 33 34 35 ?_
        refine VC.seq ?_
        refine VC.rs ?_
        refine VO.mv ?_
        refine VO.y rfl (.neq rfl rfl) ?_
        refine VO.kp [114, 111, 109, 103, 102, 0] [(114, m14), (111, cs_m), (109, mone g8 (.cells [Value.int .i64 ((headS ((fRead d0).1)).1.1), Value.int .i64 ((headS ((fRead d0).1)).1.2.1), Value.slice cs_A (cs.length) (cs_c)].toArray 24 (0, 0))), (103, m3), (102, mone g1 (.cells [Value.int .i64 (0), Value.int .i64 (0), Value.slice none (0) (0)].toArray 24 (0, 0))), (0, wm W)] ?_
        refine VO.k17 0 2 5 6 7 8 9 10 11 12 13 22 31 33 34 35 45 ?_
        refine VC.cond rfl (fun hc16 => ?_) (fun hc16 => ?_)
        · -- FFTT
          refine VC.rs ?_
          refine VO.y rfl (.bst (cs := [Value.int .i64 (0), Value.int .i64 (0), Value.slice none (0) (0)]) rfl tst24 tz24 rfl) ?_
          refine VO.store (k := 3) (c' := [Value.int .i64 (0), Value.int .i64 (0), Value.slice none (0) (0)]) 102 rfl rfl (.inl tk24) rfl rfl rfl rfl rfl ?_
          refine VO.as ?_
          refine VO.as ?_
          refine VO.k19 0 2 3 4 5 6 7 8 9 10 11 12 13 22 31 33 34 35 45 ?_
          refine VC.ret ?_
          refine outR ?_
          refine outBR ?_
          refine outR ?_
          refine outR ?_
          refine outBR ?_
          refine outR ?_
          refine ⟨_, _, res_run (rs := [.cell 2 24, .tmp 3, .tmp 4]) rfl (.agg 102 rfl tk24 rfl ⟨_, _, _, mone_self _ _, Nat.le_of_ble_eq_true rfl, rfl⟩ (.tmp rfl (.tmp rfl .nil))), fun W_ hI => out_of (l := []) hI [] rfl rfl (mle_refl _) (fun hS_ => ?_)⟩
          dsimp only [packV]
          have he0 : ((secRead d0).1 : Ty.Den TSection) = (0, 0, []) := by first | rfl | (exact fin0_section_ok)
          refine ⟨[Value.int .i64 (0), Value.int .i64 (0), Value.slice none (0) (0)], ?_, ?_⟩
          rotate_left
          · rw [he0]; exact (mkO_Section 0 0 [] (Seps.nilAt 0 hS_) (by simp only [inK]; (exact fin1_section_ok)) (by simp only [inK]; (exact fin1_section_ok)) (Ow.nil _ _))
          all_goals (first | rfl | (exact fin0_section_ok))
        · -- FFTF
          refine VC.skip ?_
          refine outN ?_
          refine VC.rs ?_
          refine VO.mv ?_
          refine VO.callN 117 rfl fnOk93 rfl (fun W hW => cDecode_ok_ W (OwnL.rd (Ow.ownl f14_0 rfl mnil) (hW.at (i := 114) rfl) (mle_nil _))) (fun v17 m17 hv17 => ?_)
          obtain ⟨s17_0, rfl, f17_0⟩ := hv17
          have hfa18 := cDecode_fits ((fRead (d0.drop ((at_).toNat))).1)
          obtain ⟨q17_0_A2, q17_0_c2, q17_0_n2, rfl, q17_0_S, q17_0_0, q17_0_1, q17_0_2⟩ := openO_Commit (x0 := ((cDecode ((fRead (d0.drop ((at_).toNat))).1)).1).1) (x1 := ((cDecode ((fRead (d0.drop ((at_).toNat))).1)).1).2.1) (x2 := ((cDecode ((fRead (d0.drop ((at_).toNat))).1)).1).2.2) f17_0
          simp only [inK] at q17_0_0
          simp only [inK] at q17_0_1
          have q17_0_r2 := q17_0_2.rm
          refine VO.inv _ (fun _ h => h.parts (i := 117) rfl q17_0_S [119]) ?_
          refine VO.mv ?_
          refine VO.y rfl (.ext rfl rfl) ?_
          refine VO.y rfl (.ext rfl rfl) ?_
          refine VO.alloc 121 rfl tz32 (fun g20 => ?_)
          refine VO.store (k := 3) (c' := [Value.int .i64 (((cDecode ((fRead (d0.drop ((at_).toNat))).1)).1).1), Value.int .i64 (((cDecode ((fRead (d0.drop ((at_).toNat))).1)).1).2.1), Value.slice q17_0_A2 ((((cDecode ((fRead (d0.drop ((at_).toNat))).1)).1).2.2).length) (q17_0_c2)]) 121 rfl rfl (.inl tk32) rfl rfl rfl rfl rfl ?_
          refine VO.as ?_
          refine VO.k18 0 2 5 6 7 8 9 10 11 12 13 14 22 31 33 34 35 45 ?_
          refine VC.seq ?_
          refine VC.rs ?_
          refine VO.mv ?_
          refine VO.y rfl (.neq rfl rfl) ?_
          refine VO.k19 0 2 5 6 7 8 9 10 11 12 13 14 22 31 33 34 35 45 53 ?_
          refine VC.cond rfl (fun hc22 => ?_) (fun hc22 => ?_)
          · -- FFTFT
            refine VC.rs ?_
            refine VO.y rfl (.bst (cs := [Value.int .i64 (0), Value.int .i64 (0), Value.slice none (0) (0)]) rfl tst24 tz24 rfl) ?_
            refine VO.store (k := 3) (c' := [Value.int .i64 (0), Value.int .i64 (0), Value.slice none (0) (0)]) 102 rfl rfl (.inl tk24) rfl rfl rfl rfl rfl ?_
            refine VO.as ?_
            refine VO.as ?_
            refine VO.kp [121, 119, 114, 111, 109, 103, 102, 0] [(121, mone g20 (.cells [Value.int .i64 (((cDecode ((fRead (d0.drop ((at_).toNat))).1)).1).1), Value.int .i64 (((cDecode ((fRead (d0.drop ((at_).toNat))).1)).1).2.1), Value.slice q17_0_A2 ((((cDecode ((fRead (d0.drop ((at_).toNat))).1)).1).2.2).length) (q17_0_c2)].toArray 32 (0, 0))), (119, q17_0_n2), (114, m14), (111, cs_m), (109, mone g8 (.cells [Value.int .i64 ((headS ((fRead d0).1)).1.1), Value.int .i64 ((headS ((fRead d0).1)).1.2.1), Value.slice cs_A (cs.length) (cs_c)].toArray 24 (0, 0))), (103, m3), (102, mone g1 (.cells [Value.int .i64 (0), Value.int .i64 (0), Value.slice none (0) (0)].toArray 24 (0, 0))), (0, wm W)] ?_
            refine VO.k21 0 2 3 4 5 6 7 8 9 10 11 12 13 14 22 31 33 34 35 45 53 ?_
            refine VC.ret ?_
            refine outR ?_
            refine outBR ?_
            refine outR ?_
            refine outR ?_
            refine outBR ?_
            refine outR ?_
            refine ⟨_, _, res_run (rs := [.cell 2 24, .tmp 3, .tmp 4]) rfl (.agg 102 rfl tk24 rfl ⟨_, _, _, mone_self _ _, Nat.le_of_ble_eq_true rfl, rfl⟩ (.tmp rfl (.tmp rfl .nil))), fun W_ hI => out_of (l := []) hI [] rfl rfl (mle_refl _) (fun hS_ => ?_)⟩
            dsimp only [packV]
            have he0 : ((secRead d0).1 : Ty.Den TSection) = (0, 0, []) := by first | rfl | (exact fin0_section_ok)
            refine ⟨[Value.int .i64 (0), Value.int .i64 (0), Value.slice none (0) (0)], ?_, ?_⟩
            rotate_left
            · rw [he0]; exact (mkO_Section 0 0 [] (Seps.nilAt 0 hS_) (by simp only [inK]; (exact fin1_section_ok)) (by simp only [inK]; (exact fin1_section_ok)) (Ow.nil _ _))
            all_goals (first | rfl | (exact fin0_section_ok))
          · -- FFTFF
            refine VC.skip ?_
            refine outN ?_
            refine VC.reg ?_
            refine VO.y rfl (.fa rfl tst24 rfl) ?_
            refine VO.y rfl (.ld1 109 rfl tk22 rfl (cellsAt_one rfl rfl)) ?_
            refine VO.y rfl (.ldA 121 rfl tk32 rfl (cellsAt_one rfl rfl)) ?_
            refine VO.bsl (cs := [Value.int .i64 (((cDecode ((fRead (d0.drop ((at_).toNat))).1)).1).1), Value.int .i64 (((cDecode ((fRead (d0.drop ((at_).toNat))).1)).1).2.1), Value.slice q17_0_A2 ((((cDecode ((fRead (d0.drop ((at_).toNat))).1)).1).2.2).length) (q17_0_c2)]) 124 rfl rfl tsl22 tz32 rfl rfl (fun g23 => ?_)
            refine VO.appO (e := TCommit) 111 119 124 rfl rfl rfl tsl22 tz32 rfl rfl rfl rfl h_cs (show Ow TCommit _ _ ((cDecode ((fRead (d0.drop ((at_).toNat))).1)).1) from (mkO_Commit (((cDecode ((fRead (d0.drop ((at_).toNat))).1)).1).1) (((cDecode ((fRead (d0.drop ((at_).toNat))).1)).1).2.1) (((cDecode ((fRead (d0.drop ((at_).toNat))).1)).1).2.2) (Seps.one (mle_refl _)) (by simp only [inK]; (exact fin1_section_ok)) (by simp only [inK]; (exact fin1_section_ok)) (OwnL.ow (Ow.ownl q17_0_2 rfl mnil) rfl))) Try.underlying22 (cellsAt_one rfl rfl) (by simp only [maxLen]; (exact fin1_section_ok)) (by exact fin1_section_ok) (by decide) (fun v25 m25 ho25 => ?_)
            obtain ⟨A25, c25, rfl, l25, k25⟩ := ho25.slice
            simp only [maxLen] at k25
            refine VO.mv ?_
            refine VO.mv ?_
            refine VO.y rfl (.add rfl rfl rfl ⟨by exact fin1_section_ok, by exact fin1_section_ok⟩) ?_
            refine VO.y rfl (.fa rfl tst24 rfl) ?_
            refine VO.store (k := 1) (c' := [Value.int .i64 ((headS ((fRead d0).1)).1.1), Value.int .i64 ((headS ((fRead d0).1)).1.2.1), Value.slice A25 ((cs ++ [((cDecode ((fRead (d0.drop ((at_).toNat))).1)).1)]).length) (c25)]) 109 rfl rfl (.inr ⟨tk22, rfl⟩) rfl rfl rfl rfl rfl ?_
            refine VO.as ?_
            refine VO.kp [111, 121, 114, 109, 103, 102, 0] [(111, m25), (121, mone g20 (.cells [Value.int .i64 (((cDecode ((fRead (d0.drop ((at_).toNat))).1)).1).1), Value.int .i64 (((cDecode ((fRead (d0.drop ((at_).toNat))).1)).1).2.1), Value.slice q17_0_A2 ((((cDecode ((fRead (d0.drop ((at_).toNat))).1)).1).2.2).length) (q17_0_c2)].toArray 32 (0, 0))), (114, m14), (109, mone g8 (.cells [Value.int .i64 ((headS ((fRead d0).1)).1.1), Value.int .i64 ((headS ((fRead d0).1)).1.2.1), Value.slice A25 ((cs ++ [((cDecode ((fRead (d0.drop ((at_).toNat))).1)).1)]).length) (c25)].toArray 24 (0, 0))), (103, m3), (102, mone g1 (.cells [Value.int .i64 (0), Value.int .i64 (0), Value.slice none (0) (0)].toArray 24 (0, 0))), (0, wm W)] ?_
            refine VO.k19 0 2 5 6 7 8 9 10 11 12 13 14 22 31 33 34 35 45 53 ?_
            refine outBN ?_
            refine outN ?_
            refine VC.reg ?_
            refine VO.y rfl (.add (c := ((j + 1 : Nat) : Int)) rfl rfl (by omega) ⟨by exact fin1_section_ok, by exact fin1_section_ok⟩) ?_
            refine VO.mv ?_
            refine VO.k19 0 2 5 6 7 8 9 10 11 12 13 14 22 31 33 34 35 45 53 ?_
            exact outN ⟨⟨cs ++ [((cDecode ((fRead (d0.drop ((at_).toNat))).1)).1)], A25, c25, m25, at_ + ((fRead (d0.drop ((at_).toNat))).2.1), j + 1⟩, ⟨by (have h_ := com_next hp (by omega) (by assumption) (by assumption); rw [Nat.sub_sub] at h_; exact h_), by (have h_ := com_read d0 at_ ha0.1 ha0.2; dsimp only; omega), by (dsimp only; omega), by (simp only [List.length_append, List.length_cons, List.length_nil]; omega), ho25⟩, by first | omega | (simp only [List.length_append, List.length_cons, List.length_nil]; omega), ⟨⟨rfl, rfl, rfl, rfl, rfl, rfl, rfl, rfl, rfl, rfl, rfl, rfl, trivial⟩, fun _ h => Inv.sub h [111, 109, 103, 102, 0]⟩⟩
      · -- FFF
        refine VC.exit ?_
        refine outE ?_
        refine outE ?_
        refine outBB ?_
        refine outN ?_
        refine VC.seq ?_
        refine VC.inv _ (fun _ h => Inv.num h 102 2102 rfl) ?_
        refine VC.regD _ 7 [(0, true), (1, true), (2, true), (3, false), (4, true), (5, false), (6, true)] follows (by kernel_rfl) (fun _ h => h.sub [111, 109, 103, 2102, 0]) ?_
        refine VD.y rfl rfl (.inl rfl) (.ldA 109 rfl tk24 rfl (cellsAt_one rfl rfl)) ?_
        refine VD.y rfl rfl (.inl rfl) (.mv rfl) ?_
        refine VD.y rfl rfl (.inl rfl) (.ldA 109 rfl tk24 rfl (cellsAt_one rfl rfl)) ?_
        refine VD.callN 126 rfl rfl (.inl rfl) fnOk9 rfl (fun _ h => h.sub [111, 109, 103, 2102, 0]) (fun W hW => sectCheck_ok W (mk_Section (m := wm W) ((headS ((fRead d0).1)).1.1) ((headS ((fRead d0).1)).1.2.1) cs (by simp only [inK]; (exact fin1_section_ok)) (by simp only [inK]; (exact fin1_section_ok)) (Ow.rd h_cs (hW.at (i := 111) rfl)))) (fun v26 m26 hv26 => ?_)
        try dsimp only at hv26
        subst hv26
        have hfa27 := sectCheck_range ((headS ((fRead d0).1)).1.1, (headS ((fRead d0).1)).1.2.1, cs)
        refine VD.y rfl rfl (.inl rfl) (.eql rfl rfl) ?_
        refine VD.storeH (k := 3) (c' := [Value.int .i64 ((headS ((fRead d0).1)).1.1), Value.int .i64 ((headS ((fRead d0).1)).1.2.1), Value.slice cs_A (cs.length) (cs_c)]) 2102 rfl rfl rfl (.inl tk24) rfl rfl rfl rfl rfl (fun _ h => h.sub [111, 109, 103, 0]) ?_
        refine VD.y rfl rfl (.inl rfl) (.as rfl) ?_
        refine VD.nil rfl ?_ rfl
        refine VO.as ?_
        refine VO.k15 0 2 3 4 5 6 7 8 9 10 22 31 33 34 35 ?_
        refine outN ?_
        refine VC.ret ?_
        refine ⟨_, _, res_run (rs := [.cell 2 24, .tmp 3, .tmp 4]) rfl (.agg 2102 rfl tk24 rfl ⟨_, _, _, mone_self _ _, Nat.le_of_ble_eq_true rfl, rfl⟩ (.tmp rfl (.tmp rfl .nil))), fun W_ hI => out_of (l := [cs_m]) hI [111] rfl rfl (mle_refl _) (fun hS_ => ?_)⟩
        dsimp only [packV]
        have he0 : ((secRead d0).1 : Ty.Den TSection) = ((headS ((fRead d0).1)).1.1, (headS ((fRead d0).1)).1.2.1, cs) := by first | rfl | (exact fin0_section_ok)
        refine ⟨[Value.int .i64 ((headS ((fRead d0).1)).1.1), Value.int .i64 ((headS ((fRead d0).1)).1.2.1), Value.slice cs_A (cs.length) (cs_c)], ?_, ?_⟩
        rotate_left
        · rw [he0]; exact (mkO_Section ((headS ((fRead d0).1)).1.1) ((headS ((fRead d0).1)).1.2.1) cs hS_ (by simp only [inK]; (exact fin1_section_ok)) (by simp only [inK]; (exact fin1_section_ok)) h_cs)
        all_goals (first | rfl | (exact fin0_section_ok))
theorem fin0_s19read_ok {P : Prop} (h : P := by first | (rw [sec_no1 (by assumption)] <;> rfl) | (rw [sec_no2 ((head_refx (B := (fRead d0).1)).1 (by assumption))] <;> rfl) | (rw [sec_no3 (by assumption) (by rw [hd]; simp) (com_no1 hp (by omega) (by assumption))] <;> rfl) | (rw [sec_no3 (by assumption) (by rw [hd]; simp) (com_no2 hp (by omega) (by assumption) (by assumption))] <;> rfl) | (rw [sec_yes (by assumption) (by rw [hd]; simp) (com_end hp (by omega))] <;> first | rfl | (simp only [hc2, hc3] <;> rfl))) : P := h
theorem fin1_s19read_ok {P : Prop} (h : P := by first | omega | (simp only [List.length_append, List.length_nil, List.length_cons, List.length_take, List.length_drop] at *; omega) | (have h_ := headS_range (fRead d0).1; omega)) : P := h
end
section
set_option linter.unusedVariables false
set_option linter.unusedSimpArgs false
set_option maxRecDepth 4000
theorem s19read_ok (W : World) {v0 : Value} {d0 : List UInt8} (h0 : Rd (.sl .byte) (wm W) [v0] d0) : CallR Try.prog 61 [v0] W (mnil) (fun v m' => ∃ (s0 : List Value), v = .tuple #[.agg s0.toArray, .int .i64 ((secRead d0).2.1), .bool ((secRead d0).2.2)] ∧ Ow TSection m' s0 ((secRead d0).1)) := by
  obtain ⟨A0, c0, rfl, l0, k0⟩ := h0.slice
  simp only [maxLen] at k0
  refine CallR.ofA (n := 76) Try.func61 rfl rfl rfl ?_
  refine VC.rs ?_
  refine VO.alloc 102 rfl tz24 (fun g1 => ?_)
  refine VO.as ?_
  refine VO.as ?_
  refine VO.k4 0 2 3 4 ?_
  refine VC.rs ?_
  refine VO.mv ?_
  refine VO.callN 103 rfl fnOk94 rfl (fun W hW => f9Read_ok W (Rd.mono h0 (hW.at (i := 0) rfl))) (fun v3 m3 hv3 => ?_)
  obtain ⟨s3_0, rfl, f3_0⟩ := hv3
  have hfa4 := fRead_bounds d0
  obtain ⟨A3_0, c3_0, eq3_0, l3_0, k3_0⟩ := f3_0.slice
  subst eq3_0
  simp only [maxLen] at k3_0
  refine VO.mv ?_
  refine VO.y rfl (.ext rfl rfl) ?_
  refine VO.y rfl (.ext rfl rfl) ?_
  refine VO.y rfl (.ext rfl rfl) ?_
  refine VO.as ?_
  refine VO.as ?_
  refine VO.as ?_
  refine VO.k7 0 2 3 4 5 6 7 ?_
  refine VC.seq ?_
  refine VC.rs ?_
  refine VO.mv ?_
  refine VO.y rfl (.neq rfl rfl) ?_
  refine VO.kp [103, 102, 0] [(103, m3), (102, mone g1 (.cells [Value.int .i64 (0), Value.int .i64 (0), Value.slice none (0) (0)].toArray 24 (0, 0))), (0, wm W)] ?_
  refine VO.k8 0 2 3 4 5 6 7 22 ?_
  refine VC.cond rfl (fun hc5 => ?_) (fun hc5 => ?_)
  · -- T
    refine VC.rs ?_
    refine VO.y rfl (.bst (cs := [Value.int .i64 (0), Value.int .i64 (0), Value.slice none (0) (0)]) rfl tst24 tz24 rfl) ?_
    refine VO.store (k := 3) (c' := [Value.int .i64 (0), Value.int .i64 (0), Value.slice none (0) (0)]) 102 rfl rfl (.inl tk24) rfl rfl rfl rfl rfl ?_
    refine VO.as ?_
    refine VO.as ?_
    refine VO.k8 0 2 3 4 5 6 7 22 ?_
    refine VC.ret ?_
    refine outR ?_
    refine ⟨_, _, res_run (rs := [.cell 2 24, .tmp 3, .tmp 4]) rfl (.agg 102 rfl tk24 rfl ⟨_, _, _, mone_self _ _, Nat.le_of_ble_eq_true rfl, rfl⟩ (.tmp rfl (.tmp rfl .nil))), fun W_ hI => out_of (l := []) hI [] rfl rfl (mle_refl _) (fun hS_ => ?_)⟩
    dsimp only [packV]
    have he0 : ((secRead d0).1 : Ty.Den TSection) = (0, 0, []) := by first | rfl | (exact fin0_s19read_ok)
    refine ⟨[Value.int .i64 (0), Value.int .i64 (0), Value.slice none (0) (0)], ?_, ?_⟩
    rotate_left
    · rw [he0]; exact (mkO_Section 0 0 [] (Seps.nilAt 0 hS_) (by simp only [inK]; (exact fin1_s19read_ok)) (by simp only [inK]; (exact fin1_s19read_ok)) (Ow.nil _ _))
    all_goals (first | rfl | (exact fin0_s19read_ok))
  · -- F
    refine VC.skip ?_
    refine outN ?_
    refine VC.rs ?_
    refine VO.mv ?_
    refine VO.y rfl (.bst (cs := [Value.slice A3_0 (((fRead d0).1).length) (c3_0), Value.int .i64 (0), Value.bool false]) rfl tst117 tz117 rfl) ?_
    refine VO.box (cs := [Value.slice A3_0 (((fRead d0).1).length) (c3_0), Value.int .i64 (0), Value.bool false]) 107 rfl rfl rfl (fun g6 => ?_)
    refine VO.as ?_
    refine VO.k9 0 2 3 4 5 6 7 8 22 ?_
    refine VC.rs ?_
    refine VO.mv ?_
    refine VO.call 107 rfl fnOk95 rfl rfl (fun W hW => rSmall_ok W (d0 := ((fRead d0).1, 0, false)) (hW.at (i := 107) rfl) (OwnL.rd (Ow.ownl f3_0 rfl mnil) (hW.out (i := 107) (j := 103) rfl rfl) (mle_nil _)) (by simp only [inK]; (exact fin1_s19read_ok)) 1048576 (by simp only [inK]; (exact fin1_s19read_ok)) (by first | assumption | exact ⟨by omega, by omega⟩ | exact ⟨by (simp; done), by (simp; done)⟩)) (fun v8 m8 hv8 => ?_)
    try dsimp only at hv8
    obtain ⟨rfl, rfl, w8_0_1⟩ := hv8
    have hfa9 := (rNum_ok (B := ((fRead d0).1)) (m := 1048576) (s := (0, false)) (by first | assumption | exact ⟨by omega, by omega⟩ | exact ⟨by (simp; done), by (simp; done)⟩) (by omega)).1
    have hfa10 := (rNum_ok (B := ((fRead d0).1)) (m := 1048576) (s := (0, false)) (by first | assumption | exact ⟨by omega, by omega⟩ | exact ⟨by (simp; done), by (simp; done)⟩) (by omega)).1.1
    have hfa11 := (rNum_ok (B := ((fRead d0).1)) (m := 1048576) (s := (0, false)) (by first | assumption | exact ⟨by omega, by omega⟩ | exact ⟨by (simp; done), by (simp; done)⟩) (by omega)).1.2
    have hfa12 := (rNum_ok (B := ((fRead d0).1)) (m := 1048576) (s := (0, false)) (by first | assumption | exact ⟨by omega, by omega⟩ | exact ⟨by (simp; done), by (simp; done)⟩) (by omega)).2
    simp only [inK] at w8_0_1
    refine VO.mv ?_
    refine VO.call 107 rfl fnOk95 rfl rfl (fun W hW => rSmall_ok W (d0 := ((fRead d0).1, (rNum ((fRead d0).1) 1048576 (0, false)).2)) (hW.at (i := 107) rfl) (OwnL.rd (Ow.ownl f3_0 rfl mnil) (hW.out (i := 107) (j := 103) rfl rfl) (mle_nil _)) (by simp only [inK]; (exact fin1_s19read_ok)) 1048576 (by simp only [inK]; (exact fin1_s19read_ok)) (by first | assumption | exact ⟨by omega, by omega⟩ | exact ⟨by (simp; done), by (simp; done)⟩)) (fun v13 m13 hv13 => ?_)
    try dsimp only at hv13
    obtain ⟨rfl, rfl, w13_0_1⟩ := hv13
    have hfa14 := (rNum_ok (B := ((fRead d0).1)) (m := 1048576) (s := ((rNum ((fRead d0).1) 1048576 (0, false)).2)) (by first | assumption | exact ⟨by omega, by omega⟩ | exact ⟨by (simp; done), by (simp; done)⟩) (by omega)).1
    have hfa15 := (rNum_ok (B := ((fRead d0).1)) (m := 1048576) (s := ((rNum ((fRead d0).1) 1048576 (0, false)).2)) (by first | assumption | exact ⟨by omega, by omega⟩ | exact ⟨by (simp; done), by (simp; done)⟩) (by omega)).1.1
    have hfa16 := (rNum_ok (B := ((fRead d0).1)) (m := 1048576) (s := ((rNum ((fRead d0).1) 1048576 (0, false)).2)) (by first | assumption | exact ⟨by omega, by omega⟩ | exact ⟨by (simp; done), by (simp; done)⟩) (by omega)).1.2
    have hfa17 := (rNum_ok (B := ((fRead d0).1)) (m := 1048576) (s := ((rNum ((fRead d0).1) 1048576 (0, false)).2)) (by first | assumption | exact ⟨by omega, by omega⟩ | exact ⟨by (simp; done), by (simp; done)⟩) (by omega)).2
    simp only [inK] at w13_0_1
    refine VO.y rfl (.bst (cs := [Value.int .i64 ((rNum ((fRead d0).1) 1048576 (0, false)).1), Value.int .i64 ((rNum ((fRead d0).1) 1048576 ((rNum ((fRead d0).1) 1048576 (0, false)).2)).1), Value.slice none (0) (0)]) rfl tst24 tz24 rfl) ?_
    refine VO.alloc 119 rfl tz24 (fun g18 => ?_)
    refine VO.store (k := 3) (c' := [Value.int .i64 ((rNum ((fRead d0).1) 1048576 (0, false)).1), Value.int .i64 ((rNum ((fRead d0).1) 1048576 ((rNum ((fRead d0).1) 1048576 (0, false)).2)).1), Value.slice none (0) (0)]) 119 rfl rfl (.inl tk24) rfl rfl rfl rfl rfl ?_
    refine VO.k10 0 2 3 4 5 6 7 8 9 22 ?_
    refine VC.rs ?_
    refine VO.mv ?_
    refine VO.call 107 rfl fnOk95 rfl rfl (fun W hW => rSmall_ok W (d0 := ((fRead d0).1, (rNum ((fRead d0).1) 1048576 ((rNum ((fRead d0).1) 1048576 (0, false)).2)).2)) (hW.at (i := 107) rfl) (OwnL.rd (Ow.ownl f3_0 rfl mnil) (hW.out (i := 107) (j := 103) rfl rfl) (mle_nil _)) (by simp only [inK]; (exact fin1_s19read_ok)) 1048576 (by simp only [inK]; (exact fin1_s19read_ok)) (by first | assumption | exact ⟨by omega, by omega⟩ | exact ⟨by (simp; done), by (simp; done)⟩)) (fun v20 m20 hv20 => ?_)
    try dsimp only at hv20
    obtain ⟨rfl, rfl, w20_0_1⟩ := hv20
    have hfa21 := (rNum_ok (B := ((fRead d0).1)) (m := 1048576) (s := ((rNum ((fRead d0).1) 1048576 ((rNum ((fRead d0).1) 1048576 (0, false)).2)).2)) (by first | assumption | exact ⟨by omega, by omega⟩ | exact ⟨by (simp; done), by (simp; done)⟩) (by omega)).1
    have hfa22 := (rNum_ok (B := ((fRead d0).1)) (m := 1048576) (s := ((rNum ((fRead d0).1) 1048576 ((rNum ((fRead d0).1) 1048576 (0, false)).2)).2)) (by first | assumption | exact ⟨by omega, by omega⟩ | exact ⟨by (simp; done), by (simp; done)⟩) (by omega)).1.1
    have hfa23 := (rNum_ok (B := ((fRead d0).1)) (m := 1048576) (s := ((rNum ((fRead d0).1) 1048576 ((rNum ((fRead d0).1) 1048576 (0, false)).2)).2)) (by first | assumption | exact ⟨by omega, by omega⟩ | exact ⟨by (simp; done), by (simp; done)⟩) (by omega)).1.2
    have hfa24 := (rNum_ok (B := ((fRead d0).1)) (m := 1048576) (s := ((rNum ((fRead d0).1) 1048576 ((rNum ((fRead d0).1) 1048576 (0, false)).2)).2)) (by first | assumption | exact ⟨by omega, by omega⟩ | exact ⟨by (simp; done), by (simp; done)⟩) (by omega)).2
    simp only [inK] at w20_0_1
    refine VO.as ?_
    refine VO.kp [107, 119, 103, 102, 0] [(107, mone g6 (.cells [Value.slice A3_0 (((fRead d0).1).length) (c3_0), Value.int .i64 ((rNum ((fRead d0).1) 1048576 ((rNum ((fRead d0).1) 1048576 ((rNum ((fRead d0).1) 1048576 (0, false)).2)).2)).2.1), Value.bool ((rNum ((fRead d0).1) 1048576 ((rNum ((fRead d0).1) 1048576 ((rNum ((fRead d0).1) 1048576 (0, false)).2)).2)).2.2)].toArray 117 (0, 0))), (119, mone g18 (.cells [Value.int .i64 ((rNum ((fRead d0).1) 1048576 (0, false)).1), Value.int .i64 ((rNum ((fRead d0).1) 1048576 ((rNum ((fRead d0).1) 1048576 (0, false)).2)).1), Value.slice none (0) (0)].toArray 24 (0, 0))), (103, m3), (102, mone g1 (.cells [Value.int .i64 (0), Value.int .i64 (0), Value.slice none (0) (0)].toArray 24 (0, 0))), (0, wm W)] ?_
    refine VO.k11 0 2 3 4 5 6 7 8 9 10 22 ?_
    refine VC.seq ?_
    refine VC.rs ?_
    refine VO.mv ?_
    refine VO.call 107 rfl fnOk96 rfl rfl (fun W hW => rDone_ok W (d0 := ((fRead d0).1, (rNum ((fRead d0).1) 1048576 ((rNum ((fRead d0).1) 1048576 ((rNum ((fRead d0).1) 1048576 (0, false)).2)).2)).2)) (hW.at (i := 107) rfl) (OwnL.rd (Ow.ownl f3_0 rfl mnil) (hW.out (i := 107) (j := 103) rfl rfl) (mle_nil _)) (by simp only [inK]; (exact fin1_s19read_ok))) (fun v25 m25 hv25 => ?_)
    try dsimp only at hv25
    obtain ⟨rfl, rfl, w25_0_1⟩ := hv25
    simp only [inK] at w25_0_1
    refine VO.y rfl (.notD rfl) ?_
    refine VO.k12 0 2 3 4 5 6 7 8 9 10 22 36 ?_
    refine VC.cond rfl (fun hc26 => ?_) (fun hc26 => ?_)
    · -- FT
      refine VC.rs ?_
      refine VO.y rfl (.bst (cs := [Value.int .i64 (0), Value.int .i64 (0), Value.slice none (0) (0)]) rfl tst24 tz24 rfl) ?_
      refine VO.store (k := 3) (c' := [Value.int .i64 (0), Value.int .i64 (0), Value.slice none (0) (0)]) 102 rfl rfl (.inl tk24) rfl rfl rfl rfl rfl ?_
      refine VO.as ?_
      refine VO.as ?_
      refine VO.k12 0 2 3 4 5 6 7 8 9 10 22 36 ?_
      refine VC.ret ?_
      refine outR ?_
      refine ⟨_, _, res_run (rs := [.cell 2 24, .tmp 3, .tmp 4]) rfl (.agg 102 rfl tk24 rfl ⟨_, _, _, mone_self _ _, Nat.le_of_ble_eq_true rfl, rfl⟩ (.tmp rfl (.tmp rfl .nil))), fun W_ hI => out_of (l := []) hI [] rfl rfl (mle_refl _) (fun hS_ => ?_)⟩
      dsimp only [packV]
      have he0 : ((secRead d0).1 : Ty.Den TSection) = (0, 0, []) := by first | rfl | (exact fin0_s19read_ok)
      refine ⟨[Value.int .i64 (0), Value.int .i64 (0), Value.slice none (0) (0)], ?_, ?_⟩
      rotate_left
      · rw [he0]; exact (mkO_Section 0 0 [] (Seps.nilAt 0 hS_) (by simp only [inK]; (exact fin1_s19read_ok)) (by simp only [inK]; (exact fin1_s19read_ok)) (Ow.nil _ _))
      all_goals (first | rfl | (exact fin0_s19read_ok))
    · -- FF
      refine VC.skip ?_
      refine outN ?_
      refine VC.seq ?_
      refine VC.block ?_
      refine VC.inv ((127, mnil) :: _) (fun _ h => h.nilc 127) ?_
      refine VC.loop (G := (List DCommit) × (Option Addr) × Nat × Mem × Int) (fun g => [(6, Value.int .i64 ((g.2.2.2.2))), (0, Value.slice A0 (d0.length) (c0)), (2, Value.pointer (some ⟨g1, 0, none⟩)), (5, Value.slice A3_0 (((fRead d0).1).length) (c3_0)), (7, Value.int .i64 ((fRead d0).2.2)), (8, Value.pointer (some ⟨g6, 0, none⟩)), (9, Value.pointer (some ⟨g18, 0, none⟩)), (10, Value.int .i64 ((rNum ((fRead d0).1) 1048576 ((rNum ((fRead d0).1) 1048576 ((rNum ((fRead d0).1) 1048576 (0, false)).2)).2)).1)), (22, Value.bool (decide (¬ ((fRead d0).2.2) = 0))), (36, Value.bool (decide (¬ (((rNum ((fRead d0).1) 1048576 ((rNum ((fRead d0).1) 1048576 ((rNum ((fRead d0).1) 1048576 (0, false)).2)).2)).2.2) = false ∧ ((rNum ((fRead d0).1) 1048576 ((rNum ((fRead d0).1) 1048576 ((rNum ((fRead d0).1) 1048576 (0, false)).2)).2)).2.1) = ((fRead d0).1).length))))]) (fun g => [(127, (g.2.2.2.1)), (107, mone g6 (.cells [Value.slice A3_0 (((fRead d0).1).length) (c3_0), Value.int .i64 (((rNum ((fRead d0).1) 1048576 ((rNum ((fRead d0).1) 1048576 ((rNum ((fRead d0).1) 1048576 (0, false)).2)).2)).2.1)), Value.bool ((rNum ((fRead d0).1) 1048576 ((rNum ((fRead d0).1) 1048576 ((rNum ((fRead d0).1) 1048576 (0, false)).2)).2)).2.2)].toArray 117 (0, 0))), (119, mone g18 (.cells [Value.int .i64 ((rNum ((fRead d0).1) 1048576 (0, false)).1), Value.int .i64 ((rNum ((fRead d0).1) 1048576 ((rNum ((fRead d0).1) 1048576 (0, false)).2)).1), Value.slice (g.2.1) ((g.1).length) ((g.2.2.1))].toArray 24 (0, 0))), (103, m3), (102, mone g1 (.cells [Value.int .i64 (0), Value.int .i64 (0), Value.slice none (0) (0)].toArray 24 (0, 0))), (0, wm W)]) (fun g => (comGo (headS (fRead d0).1).2.1.toNat d0 [] (fRead d0).2.1 = comGo ((headS (fRead d0).1).2.1.toNat - (g.1).length) d0 (g.1) (g.2.2.2.2)) ∧ (0 ≤ (g.2.2.2.2) ∧ (g.2.2.2.2) ≤ d0.length) ∧ ((g.1).length ≤ (headS (fRead d0).1).2.1.toNat) ∧ (Ow (.sl TCommit) (g.2.2.2.1) [.slice (g.2.1) (g.1).length (g.2.2.1)] (g.1))) (fun g => (headS (fRead d0).1).2.1.toNat - (g.1).length) ([], none, 0, mnil, (fRead d0).2.1) (⟨by rfl, by (dsimp only; omega), by (simp), (Ow.nil TCommit mnil)⟩) ⟨⟨rfl, rfl, rfl, rfl, rfl, rfl, rfl, rfl, rfl, rfl, trivial⟩, fun _ h => h.sub [127, 107, 119, 103, 102, 0]⟩ ?_
      rintro ⟨cs, cs_A, cs_c, cs_m, at_⟩ ⟨hp, ha0, hj, h_cs⟩
      replace hp : comGo (headS (fRead d0).1).2.1.toNat d0 [] (fRead d0).2.1 = comGo ((headS (fRead d0).1).2.1.toNat - cs.length) d0 cs at_ := hp
      replace ha0 : 0 ≤ at_ ∧ at_ ≤ d0.length := ha0
      replace hj : cs.length ≤ (headS (fRead d0).1).2.1.toNat := hj
      replace h_cs : Ow (.sl TCommit) cs_m [.slice cs_A cs.length cs_c] cs := h_cs
      show VC _ _ _ _ _ [(6, Value.int .i64 (at_)), (0, Value.slice A0 (d0.length) (c0)), (2, Value.pointer (some ⟨g1, 0, none⟩)), (5, Value.slice A3_0 (((fRead d0).1).length) (c3_0)), (7, Value.int .i64 ((fRead d0).2.2)), (8, Value.pointer (some ⟨g6, 0, none⟩)), (9, Value.pointer (some ⟨g18, 0, none⟩)), (10, Value.int .i64 ((rNum ((fRead d0).1) 1048576 ((rNum ((fRead d0).1) 1048576 ((rNum ((fRead d0).1) 1048576 (0, false)).2)).2)).1)), (22, Value.bool (decide (¬ ((fRead d0).2.2) = 0))), (36, Value.bool (decide (¬ (((rNum ((fRead d0).1) 1048576 ((rNum ((fRead d0).1) 1048576 ((rNum ((fRead d0).1) 1048576 (0, false)).2)).2)).2.2) = false ∧ ((rNum ((fRead d0).1) 1048576 ((rNum ((fRead d0).1) 1048576 ((rNum ((fRead d0).1) 1048576 (0, false)).2)).2)).2.1) = ((fRead d0).1).length))))] [(127, cs_m), (107, mone g6 (.cells [Value.slice A3_0 (((fRead d0).1).length) (c3_0), Value.int .i64 (((rNum ((fRead d0).1) 1048576 ((rNum ((fRead d0).1) 1048576 ((rNum ((fRead d0).1) 1048576 (0, false)).2)).2)).2.1)), Value.bool ((rNum ((fRead d0).1) 1048576 ((rNum ((fRead d0).1) 1048576 ((rNum ((fRead d0).1) 1048576 (0, false)).2)).2)).2.2)].toArray 117 (0, 0))), (119, mone g18 (.cells [Value.int .i64 ((rNum ((fRead d0).1) 1048576 (0, false)).1), Value.int .i64 ((rNum ((fRead d0).1) 1048576 ((rNum ((fRead d0).1) 1048576 (0, false)).2)).1), Value.slice cs_A (cs.length) (cs_c)].toArray 24 (0, 0))), (103, m3), (102, mone g1 (.cells [Value.int .i64 (0), Value.int .i64 (0), Value.slice none (0) (0)].toArray 24 (0, 0))), (0, wm W)]
      have l_cs : cs.length ≤ cs_c := by obtain ⟨_, _, he, hl, _⟩ := h_cs.slice; simp only [Value.slice.injEq] at he; omega
      have k_cs : cs_c ≤ 9223372036854775807 := by obtain ⟨_, _, he, _, hl⟩ := h_cs.slice; simp only [Value.slice.injEq, maxLen] at he hl; omega
      have hd := (head_refx (B := (fRead d0).1)).2 (Decidable.not_not.1 (by assumption))
      have hr := headS_range (fRead d0).1
      have hc1 := congrArg (fun x => x.2.1) hd
      have hc2 := congrArg (fun x => x.1.1) hd
      have hc3 := congrArg (fun x => x.1.2.1) hd
      dsimp only at hc1 hc2 hc3
      refine VC.seq ?_
      refine VC.rs ?_
      refine VO.y rfl (.fa rfl tst24 rfl) ?_
      refine VO.y rfl (.ld1 119 rfl tk22 rfl (cellsAt_one rfl rfl)) ?_
      refine VO.y rfl (.lenS rfl tsl22) ?_
      refine VO.mv ?_
      refine VO.y rfl (.lss rfl rfl) ?_
      refine VO.k11 0 2 5 6 7 8 9 10 22 36 42 ?_
      refine VC.cond rfl (fun hc28 => ?_) (fun hc28 => ?_)
      · -- FFT
        refine VC.skip ?_
        refine outN ?_
        refine VC.block ?_
        refine VC.rs ?_
        refine VO.mv ?_
        refine VO.mv ?_
        obtain ⟨A29, hA29, hs29⟩ := h0.drop 1 ((at_).toNat) rfl (by exact fin1_s19read_ok)
        refine VO.y rfl (.slLI ((at_).toNat) A29 rfl rfl tsl25 (by exact fin1_s19read_ok) hA29 (by exact fin1_s19read_ok)) ?_
        refine VO.callN 130 rfl fnOk94 rfl (fun W hW => f9Read_ok W (Rd.mono hs29 (hW.at (i := 0) rfl))) (fun v30 m30 hv30 => ?_)
        obtain ⟨s30_0, rfl, f30_0⟩ := hv30
        have hfa31 := fRead_bounds (d0.drop ((at_).toNat))
        obtain ⟨A30_0, c30_0, eq30_0, l30_0, k30_0⟩ := f30_0.slice
        subst eq30_0
        simp only [maxLen] at k30_0
        refine VO.mv ?_
        refine VO.y rfl (.ext rfl rfl) ?_
        refine VO.y rfl (.ext rfl rfl) ?_
        refine VO.y rfl (.ext rfl rfl) ?_
        refine VO.as ?_
        refine VO.as ?_
        refine VO.as ?_
        refine VO.kp [130, 127, 107, 119, 103, 102, 0] [(130, m30), (127, cs_m), (107, mone g6 (.cells [Value.slice A3_0 (((fRead d0).1).length) (c3_0), Value.int .i64 (((rNum ((fRead d0).1) 1048576 ((rNum ((fRead d0).1) 1048576 ((rNum ((fRead d0).1) 1048576 (0, false)).2)).2)).2.1)), Value.bool ((rNum ((fRead d0).1) 1048576 ((rNum ((fRead d0).1) 1048576 ((rNum ((fRead d0).1) 1048576 (0, false)).2)).2)).2.2)].toArray 117 (0, 0))), (119, mone g18 (.cells [Value.int .i64 ((rNum ((fRead d0).1) 1048576 (0, false)).1), Value.int .i64 ((rNum ((fRead d0).1) 1048576 ((rNum ((fRead d0).1) 1048576 (0, false)).2)).1), Value.slice cs_A (cs.length) (cs_c)].toArray 24 (0, 0))), (103, m3), (102, mone g1 (.cells [Value.int .i64 (0), Value.int .i64 (0), Value.slice none (0) (0)].toArray 24 (0, 0))), (0, wm W)] ?_
        refine VO.k14 0 2 5 6 7 8 9 10 11 12 13 22 36 42 ?_
        refine VC.seq ?_
        refine VC.rs ?_
        refine VO.mv ?_
        refine VO.y rfl (.neq rfl rfl) ?_
        refine VO.k15 0 2 5 6 7 8 9 10 11 12 13 22 36 42 52 ?_
        refine VC.cond rfl (fun hc32 => ?_) (fun hc32 => ?_)
        · -- FFTT
          refine VC.rs ?_
          refine VO.y rfl (.bst (cs := [Value.int .i64 (0), Value.int .i64 (0), Value.slice none (0) (0)]) rfl tst24 tz24 rfl) ?_
          refine VO.store (k := 3) (c' := [Value.int .i64 (0), Value.int .i64 (0), Value.slice none (0) (0)]) 102 rfl rfl (.inl tk24) rfl rfl rfl rfl rfl ?_
          refine VO.as ?_
          refine VO.as ?_
          refine VO.k17 0 2 3 4 5 6 7 8 9 10 11 12 13 22 36 42 52 ?_
          refine VC.ret ?_
          refine outR ?_
          refine outBR ?_
          refine outR ?_
          refine outBR ?_
          refine outR ?_
          refine ⟨_, _, res_run (rs := [.cell 2 24, .tmp 3, .tmp 4]) rfl (.agg 102 rfl tk24 rfl ⟨_, _, _, mone_self _ _, Nat.le_of_ble_eq_true rfl, rfl⟩ (.tmp rfl (.tmp rfl .nil))), fun W_ hI => out_of (l := []) hI [] rfl rfl (mle_refl _) (fun hS_ => ?_)⟩
          dsimp only [packV]
          have he0 : ((secRead d0).1 : Ty.Den TSection) = (0, 0, []) := by first | rfl | (exact fin0_s19read_ok)
          refine ⟨[Value.int .i64 (0), Value.int .i64 (0), Value.slice none (0) (0)], ?_, ?_⟩
          rotate_left
          · rw [he0]; exact (mkO_Section 0 0 [] (Seps.nilAt 0 hS_) (by simp only [inK]; (exact fin1_s19read_ok)) (by simp only [inK]; (exact fin1_s19read_ok)) (Ow.nil _ _))
          all_goals (first | rfl | (exact fin0_s19read_ok))
        · -- FFTF
          refine VC.skip ?_
          refine outN ?_
          refine VC.rs ?_
          refine VO.mv ?_
          refine VO.callN 133 rfl fnOk97 rfl (fun W hW => c4Decode_ok W (OwnL.rd (Ow.ownl f30_0 rfl mnil) (hW.at (i := 130) rfl) (mle_nil _))) (fun v33 m33 hv33 => ?_)
          obtain ⟨s33_0, rfl, f33_0⟩ := hv33
          have hfa34 := cDecode_fits ((fRead (d0.drop ((at_).toNat))).1)
          obtain ⟨q33_0_A2, q33_0_c2, q33_0_n2, rfl, q33_0_S, q33_0_0, q33_0_1, q33_0_2⟩ := openO_Commit (x0 := ((cDecode ((fRead (d0.drop ((at_).toNat))).1)).1).1) (x1 := ((cDecode ((fRead (d0.drop ((at_).toNat))).1)).1).2.1) (x2 := ((cDecode ((fRead (d0.drop ((at_).toNat))).1)).1).2.2) f33_0
          simp only [inK] at q33_0_0
          simp only [inK] at q33_0_1
          have q33_0_r2 := q33_0_2.rm
          refine VO.inv _ (fun _ h => h.parts (i := 133) rfl q33_0_S [135]) ?_
          refine VO.mv ?_
          refine VO.y rfl (.ext rfl rfl) ?_
          refine VO.y rfl (.ext rfl rfl) ?_
          refine VO.alloc 137 rfl tz32 (fun g36 => ?_)
          refine VO.store (k := 3) (c' := [Value.int .i64 (((cDecode ((fRead (d0.drop ((at_).toNat))).1)).1).1), Value.int .i64 (((cDecode ((fRead (d0.drop ((at_).toNat))).1)).1).2.1), Value.slice q33_0_A2 ((((cDecode ((fRead (d0.drop ((at_).toNat))).1)).1).2.2).length) (q33_0_c2)]) 137 rfl rfl (.inl tk32) rfl rfl rfl rfl rfl ?_
          refine VO.as ?_
          refine VO.k16 0 2 5 6 7 8 9 10 11 12 13 14 22 36 42 52 ?_
          refine VC.seq ?_
          refine VC.rs ?_
          refine VO.mv ?_
          refine VO.y rfl (.neq rfl rfl) ?_
          refine VO.kp [137, 135, 130, 127, 107, 119, 103, 102, 0] [(137, mone g36 (.cells [Value.int .i64 (((cDecode ((fRead (d0.drop ((at_).toNat))).1)).1).1), Value.int .i64 (((cDecode ((fRead (d0.drop ((at_).toNat))).1)).1).2.1), Value.slice q33_0_A2 ((((cDecode ((fRead (d0.drop ((at_).toNat))).1)).1).2.2).length) (q33_0_c2)].toArray 32 (0, 0))), (135, q33_0_n2), (130, m30), (127, cs_m), (107, mone g6 (.cells [Value.slice A3_0 (((fRead d0).1).length) (c3_0), Value.int .i64 (((rNum ((fRead d0).1) 1048576 ((rNum ((fRead d0).1) 1048576 ((rNum ((fRead d0).1) 1048576 (0, false)).2)).2)).2.1)), Value.bool ((rNum ((fRead d0).1) 1048576 ((rNum ((fRead d0).1) 1048576 ((rNum ((fRead d0).1) 1048576 (0, false)).2)).2)).2.2)].toArray 117 (0, 0))), (119, mone g18 (.cells [Value.int .i64 ((rNum ((fRead d0).1) 1048576 (0, false)).1), Value.int .i64 ((rNum ((fRead d0).1) 1048576 ((rNum ((fRead d0).1) 1048576 (0, false)).2)).1), Value.slice cs_A (cs.length) (cs_c)].toArray 24 (0, 0))), (103, m3), (102, mone g1 (.cells [Value.int .i64 (0), Value.int .i64 (0), Value.slice none (0) (0)].toArray 24 (0, 0))), (0, wm W)] ?_
          refine VO.k17 0 2 5 6 7 8 9 10 11 12 13 14 22 36 42 52 60 ?_
          refine VC.cond rfl (fun hc38 => ?_) (fun hc38 => ?_)
          · -- FFTFT
            refine VC.rs ?_
            refine VO.y rfl (.bst (cs := [Value.int .i64 (0), Value.int .i64 (0), Value.slice none (0) (0)]) rfl tst24 tz24 rfl) ?_
            refine VO.store (k := 3) (c' := [Value.int .i64 (0), Value.int .i64 (0), Value.slice none (0) (0)]) 102 rfl rfl (.inl tk24) rfl rfl rfl rfl rfl ?_
            refine VO.as ?_
            refine VO.as ?_
            refine VO.k19 0 2 3 4 5 6 7 8 9 10 11 12 13 14 22 36 42 52 60 ?_
            refine VC.ret ?_
            refine outR ?_
            refine outBR ?_
            refine outR ?_
            refine outBR ?_
            refine outR ?_
            refine ⟨_, _, res_run (rs := [.cell 2 24, .tmp 3, .tmp 4]) rfl (.agg 102 rfl tk24 rfl ⟨_, _, _, mone_self _ _, Nat.le_of_ble_eq_true rfl, rfl⟩ (.tmp rfl (.tmp rfl .nil))), fun W_ hI => out_of (l := []) hI [] rfl rfl (mle_refl _) (fun hS_ => ?_)⟩
            dsimp only [packV]
            have he0 : ((secRead d0).1 : Ty.Den TSection) = (0, 0, []) := by first | rfl | (exact fin0_s19read_ok)
            refine ⟨[Value.int .i64 (0), Value.int .i64 (0), Value.slice none (0) (0)], ?_, ?_⟩
            rotate_left
            · rw [he0]; exact (mkO_Section 0 0 [] (Seps.nilAt 0 hS_) (by simp only [inK]; (exact fin1_s19read_ok)) (by simp only [inK]; (exact fin1_s19read_ok)) (Ow.nil _ _))
            all_goals (first | rfl | (exact fin0_s19read_ok))
          · -- FFTFF
            refine VC.skip ?_
            refine outN ?_
            refine VC.rs ?_
            refine VO.y rfl (.fa rfl tst24 rfl) ?_
            refine VO.y rfl (.ld1 119 rfl tk22 rfl (cellsAt_one rfl rfl)) ?_
            refine VO.y rfl (.ldA 137 rfl tk32 rfl (cellsAt_one rfl rfl)) ?_
            refine VO.bsl (cs := [Value.int .i64 (((cDecode ((fRead (d0.drop ((at_).toNat))).1)).1).1), Value.int .i64 (((cDecode ((fRead (d0.drop ((at_).toNat))).1)).1).2.1), Value.slice q33_0_A2 ((((cDecode ((fRead (d0.drop ((at_).toNat))).1)).1).2.2).length) (q33_0_c2)]) 140 rfl rfl tsl22 tz32 rfl rfl (fun g39 => ?_)
            refine VO.appO (e := TCommit) 127 135 140 rfl rfl rfl tsl22 tz32 rfl rfl rfl rfl h_cs (show Ow TCommit _ _ ((cDecode ((fRead (d0.drop ((at_).toNat))).1)).1) from (mkO_Commit (((cDecode ((fRead (d0.drop ((at_).toNat))).1)).1).1) (((cDecode ((fRead (d0.drop ((at_).toNat))).1)).1).2.1) (((cDecode ((fRead (d0.drop ((at_).toNat))).1)).1).2.2) (Seps.one (mle_refl _)) (by simp only [inK]; (exact fin1_s19read_ok)) (by simp only [inK]; (exact fin1_s19read_ok)) (OwnL.ow (Ow.ownl q33_0_2 rfl mnil) rfl))) Try.underlying22 (cellsAt_one rfl rfl) (by simp only [maxLen]; (exact fin1_s19read_ok)) (by exact fin1_s19read_ok) (by decide) (fun v41 m41 ho41 => ?_)
            obtain ⟨A41, c41, rfl, l41, k41⟩ := ho41.slice
            simp only [maxLen] at k41
            refine VO.y rfl (.fa rfl tst24 rfl) ?_
            refine VO.store (k := 1) (c' := [Value.int .i64 ((rNum ((fRead d0).1) 1048576 (0, false)).1), Value.int .i64 ((rNum ((fRead d0).1) 1048576 ((rNum ((fRead d0).1) 1048576 (0, false)).2)).1), Value.slice A41 ((cs ++ [((cDecode ((fRead (d0.drop ((at_).toNat))).1)).1)]).length) (c41)]) 119 rfl rfl (.inr ⟨tk22, rfl⟩) rfl rfl rfl rfl rfl ?_
            refine VO.k17 0 2 5 6 7 8 9 10 11 12 13 14 22 36 42 52 60 ?_
            refine VC.reg ?_
            refine VO.mv ?_
            refine VO.mv ?_
            refine VO.y rfl (.add rfl rfl rfl ⟨by exact fin1_s19read_ok, by exact fin1_s19read_ok⟩) ?_
            refine VO.as ?_
            refine VO.k17 0 2 5 6 7 8 9 10 11 12 13 14 22 36 42 52 60 ?_
            refine outBN ?_
            exact outN ⟨⟨cs ++ [((cDecode ((fRead (d0.drop ((at_).toNat))).1)).1)], A41, c41, m41, at_ + ((fRead (d0.drop ((at_).toNat))).2.1)⟩, ⟨by (have h_ := com_next hp (by omega) (by assumption) (by assumption); rw [Nat.sub_sub] at h_; rw [List.length_append]; exact h_), by (have h_ := com_read d0 at_ ha0.1 ha0.2; dsimp only; omega), by (simp only [List.length_append, List.length_cons, List.length_nil]; omega), ho41⟩, by first | omega | (simp only [List.length_append, List.length_cons, List.length_nil]; omega), ⟨⟨rfl, rfl, rfl, rfl, rfl, rfl, rfl, rfl, rfl, rfl, trivial⟩, fun _ h => Inv.sub h [127, 107, 119, 103, 102, 0]⟩⟩
      · -- FFF
        refine VC.exit ?_
        refine outE ?_
        refine outE ?_
        refine outBB ?_
        refine outN ?_
        refine VC.seq ?_
        refine VC.inv _ (fun _ h => Inv.num h 102 2102 rfl) ?_
        refine VC.regD _ 7 [(0, true), (1, true), (2, true), (3, false), (4, true), (5, false), (6, true)] follows (by kernel_rfl) (fun _ h => h.sub [127, 107, 119, 103, 2102, 0]) ?_
        refine VD.y rfl rfl (.inl rfl) (.ldA 119 rfl tk24 rfl (cellsAt_one rfl rfl)) ?_
        refine VD.y rfl rfl (.inl rfl) (.mv rfl) ?_
        refine VD.y rfl rfl (.inl rfl) (.ldA 119 rfl tk24 rfl (cellsAt_one rfl rfl)) ?_
        refine VD.callN 142 rfl rfl (.inl rfl) fnOk20 rfl (fun _ h => h.sub [127, 107, 119, 103, 2102, 0]) (fun W hW => s19Check_ok W (mk_Section (m := wm W) ((rNum ((fRead d0).1) 1048576 (0, false)).1) ((rNum ((fRead d0).1) 1048576 ((rNum ((fRead d0).1) 1048576 (0, false)).2)).1) cs (by simp only [inK]; (exact fin1_s19read_ok)) (by simp only [inK]; (exact fin1_s19read_ok)) (Ow.rd h_cs (hW.at (i := 127) rfl)))) (fun v42 m42 hv42 => ?_)
        try dsimp only at hv42
        subst hv42
        have hfa43 := sectCheck_range ((rNum ((fRead d0).1) 1048576 (0, false)).1, (rNum ((fRead d0).1) 1048576 ((rNum ((fRead d0).1) 1048576 (0, false)).2)).1, cs)
        refine VD.y rfl rfl (.inl rfl) (.eql rfl rfl) ?_
        refine VD.storeH (k := 3) (c' := [Value.int .i64 ((rNum ((fRead d0).1) 1048576 (0, false)).1), Value.int .i64 ((rNum ((fRead d0).1) 1048576 ((rNum ((fRead d0).1) 1048576 (0, false)).2)).1), Value.slice cs_A (cs.length) (cs_c)]) 2102 rfl rfl rfl (.inl tk24) rfl rfl rfl rfl rfl (fun _ h => h.sub [127, 107, 119, 103, 0]) ?_
        refine VD.y rfl rfl (.inl rfl) (.as rfl) ?_
        refine VD.nil rfl ?_ rfl
        refine VO.as ?_
        refine VO.kp [127, 107, 119, 103, 2102, 0] [(127, cs_m), (107, mone g6 (.cells [Value.slice A3_0 (((fRead d0).1).length) (c3_0), Value.int .i64 (((rNum ((fRead d0).1) 1048576 ((rNum ((fRead d0).1) 1048576 ((rNum ((fRead d0).1) 1048576 (0, false)).2)).2)).2.1)), Value.bool ((rNum ((fRead d0).1) 1048576 ((rNum ((fRead d0).1) 1048576 ((rNum ((fRead d0).1) 1048576 (0, false)).2)).2)).2.2)].toArray 117 (0, 0))), (119, mone g18 (.cells [Value.int .i64 ((rNum ((fRead d0).1) 1048576 (0, false)).1), Value.int .i64 ((rNum ((fRead d0).1) 1048576 ((rNum ((fRead d0).1) 1048576 (0, false)).2)).1), Value.slice cs_A (cs.length) (cs_c)].toArray 24 (0, 0))), (103, m3), (2102, mone g1 (.cells [Value.int .i64 ((rNum ((fRead d0).1) 1048576 (0, false)).1), Value.int .i64 ((rNum ((fRead d0).1) 1048576 ((rNum ((fRead d0).1) 1048576 (0, false)).2)).1), Value.slice cs_A (cs.length) (cs_c)].toArray 24 (0, 0))), (0, wm W)] ?_
        refine VO.k13 0 2 3 4 5 6 7 8 9 10 22 36 42 ?_
        refine outN ?_
        refine VC.ret ?_
        refine ⟨_, _, res_run (rs := [.cell 2 24, .tmp 3, .tmp 4]) rfl (.agg 2102 rfl tk24 rfl ⟨_, _, _, mone_self _ _, Nat.le_of_ble_eq_true rfl, rfl⟩ (.tmp rfl (.tmp rfl .nil))), fun W_ hI => out_of (l := [cs_m]) hI [127] rfl rfl (mle_refl _) (fun hS_ => ?_)⟩
        dsimp only [packV]
        have he0 : ((secRead d0).1 : Ty.Den TSection) = ((rNum ((fRead d0).1) 1048576 (0, false)).1, (rNum ((fRead d0).1) 1048576 ((rNum ((fRead d0).1) 1048576 (0, false)).2)).1, cs) := by first | rfl | (exact fin0_s19read_ok)
        refine ⟨[Value.int .i64 ((rNum ((fRead d0).1) 1048576 (0, false)).1), Value.int .i64 ((rNum ((fRead d0).1) 1048576 ((rNum ((fRead d0).1) 1048576 (0, false)).2)).1), Value.slice cs_A (cs.length) (cs_c)], ?_, ?_⟩
        rotate_left
        · rw [he0]; exact (mkO_Section ((rNum ((fRead d0).1) 1048576 (0, false)).1) ((rNum ((fRead d0).1) 1048576 ((rNum ((fRead d0).1) 1048576 (0, false)).2)).1) cs hS_ (by simp only [inK]; (exact fin1_s19read_ok)) (by simp only [inK]; (exact fin1_s19read_ok)) h_cs)
        all_goals (first | rfl | (exact fin0_s19read_ok))
theorem oScan_ok (W : World) {v0 : Value} {d0 : List UInt8} (h0 : Rd (.sl .byte) (wm W) [v0] d0) (e0 : d0.length ≤ 1000000000000) : CallR Try.prog 18 [v0] W (mnil) (fun v m' => ∃ (s0 : Value), v = .tuple #[s0, .int .i64 ((scanF d0).2)] ∧ Ow (.sl TSection) m' [s0] ((scanF d0).1)) := by
  obtain ⟨A0, c0, rfl, l0, k0⟩ := h0.slice
  simp only [maxLen] at k0
  refine CallR.ofA (n := 37) Try.func18 rfl rfl rfl ?_
  refine VC.rs ?_
  refine VO.as ?_
  refine VO.as ?_
  refine VO.k3 0 2 3 ?_
  refine VC.rs ?_
  refine VO.as ?_
  refine VO.k4 0 2 3 4 ?_
  refine VC.rs ?_
  refine VO.as ?_
  refine VO.as ?_
  refine VO.kp [0] [(0, wm W)] ?_
  refine VO.k6 0 2 3 4 5 6 ?_
  refine VC.block ?_
  refine VC.inv ((101, mnil) :: _) (fun _ h => h.nilc 101) ?_
  refine VC.loop (G := (List DSection) × (Option Addr) × Nat × Mem × Int × Int × Nat) (fun g => [(4, Value.slice (g.2.1) ((g.1).length) ((g.2.2.1))), (5, Value.int .i64 ((g.2.2.2.2.1))), (6, Value.int .i64 ((g.2.2.2.2.2.1))), (0, Value.slice A0 (d0.length) (c0))]) (fun g => [(101, (g.2.2.2.1)), (0, wm W)]) (fun g => (scanF d0 = scanS (g.2.2.2.2.2.2) d0 (g.1) (g.2.2.2.2.1) (g.2.2.2.2.2.1)) ∧ (0 ≤ (g.2.2.2.2.1) ∧ (g.2.2.2.2.1) ≤ d0.length) ∧ ((d0.length : Int) - (g.2.2.2.2.1) ≤ (g.2.2.2.2.2.2)) ∧ (((g.1).length : Int) ≤ (g.2.2.2.2.1)) ∧ (Ow (.sl TSection) (g.2.2.2.1) [.slice (g.2.1) (g.1).length (g.2.2.1)] (g.1))) (fun g => ((d0.length : Int) - (g.2.2.2.2.1)).toNat) ([], none, 0, mnil, 0, 0, d0.length) (⟨by rfl, by (dsimp only; omega), by (dsimp only; omega), by simp, (Ow.nil TSection mnil)⟩) ⟨⟨rfl, rfl, rfl, rfl, trivial⟩, fun _ h => h.sub [101, 0]⟩ ?_
  rintro ⟨out, out_A, out_c, out_m, at_, ep, n⟩ ⟨hp, ha0, hn, hl, h_out⟩
  replace hp : scanF d0 = scanS n d0 out at_ ep := hp
  replace ha0 : 0 ≤ at_ ∧ at_ ≤ d0.length := ha0
  replace hn : (d0.length : Int) - at_ ≤ n := hn
  replace hl : (out.length : Int) ≤ at_ := hl
  replace h_out : Ow (.sl TSection) out_m [.slice out_A out.length out_c] out := h_out
  show VC _ _ _ _ _ [(4, Value.slice out_A (out.length) (out_c)), (5, Value.int .i64 (at_)), (6, Value.int .i64 (ep)), (0, Value.slice A0 (d0.length) (c0))] [(101, out_m), (0, wm W)]
  have l_out : out.length ≤ out_c := by obtain ⟨_, _, he, hl, _⟩ := h_out.slice; simp only [Value.slice.injEq] at he; omega
  have k_out : out_c ≤ 9223372036854775807 := by obtain ⟨_, _, he, _, hl⟩ := h_out.slice; simp only [Value.slice.injEq, maxLen] at he hl; omega
  refine VC.block ?_
  refine VC.rs ?_
  refine VO.mv ?_
  refine VO.mv ?_
  obtain ⟨A2, hA2, hs2⟩ := h0.drop 1 ((at_).toNat) rfl bd
  refine VO.y rfl (.slLI ((at_).toNat) A2 rfl rfl tsl25 bd hA2 bd) ?_
  refine VO.callN 103 rfl fnOk60 rfl (fun W hW => section_ok W (Rd.mono hs2 (hW.at (i := 0) rfl))) (fun v3 m3 hv3 => ?_)
  obtain ⟨s3_0, rfl, f3_0⟩ := hv3
  have hfa4 := secRead_bounds (d0.drop ((at_).toNat))
  obtain ⟨q3_0_A2, q3_0_c2, q3_0_n2, rfl, q3_0_S, q3_0_0, q3_0_1, q3_0_2⟩ := openO_Section (x0 := ((secRead (d0.drop ((at_).toNat))).1).1) (x1 := ((secRead (d0.drop ((at_).toNat))).1).2.1) (x2 := ((secRead (d0.drop ((at_).toNat))).1).2.2) f3_0
  simp only [inK] at q3_0_0
  simp only [inK] at q3_0_1
  have q3_0_r2 := q3_0_2.rm
  refine VO.inv _ (fun _ h => h.parts (i := 103) rfl q3_0_S [105]) ?_
  refine VO.mv ?_
  refine VO.y rfl (.ext rfl rfl) ?_
  refine VO.y rfl (.ext rfl rfl) ?_
  refine VO.y rfl (.ext rfl rfl) ?_
  refine VO.alloc 107 rfl tz24 (fun g6 => ?_)
  refine VO.store (k := 3) (c' := [Value.int .i64 (((secRead (d0.drop ((at_).toNat))).1).1), Value.int .i64 (((secRead (d0.drop ((at_).toNat))).1).2.1), Value.slice q3_0_A2 ((((secRead (d0.drop ((at_).toNat))).1).2.2).length) (q3_0_c2)]) 107 rfl rfl (.inl tk24) rfl rfl rfl rfl rfl ?_
  refine VO.as ?_
  refine VO.as ?_
  refine VO.k7 0 4 5 6 7 8 9 ?_
  refine VC.seq ?_
  refine VC.rs ?_
  refine VO.mv ?_
  refine VO.y rfl (.not rfl) ?_
  refine VO.mv ?_
  refine VO.decBN (t := 20) rfl (fun hc8 => ?_) (fun hc8 => ?_)
  · -- T
    refine VO.gN ?_
    refine VO.gN ?_
    refine VO.gN ?_
    refine VO.gN ?_
    refine VO.y rfl (.pT rfl rfl) ?_
    refine VO.k8 0 4 5 6 7 8 9 25 ?_
    refine VC.condT rfl ?_
    refine VC.rs ?_
    refine VO.mv ?_
    refine VO.mv ?_
    refine VO.as ?_
    refine VO.as ?_
    refine VO.kp [107, 105, 101, 0] [(107, mone g6 (.cells [Value.int .i64 (((secRead (d0.drop ((at_).toNat))).1).1), Value.int .i64 (((secRead (d0.drop ((at_).toNat))).1).2.1), Value.slice q3_0_A2 ((((secRead (d0.drop ((at_).toNat))).1).2.2).length) (q3_0_c2)].toArray 24 (0, 0))), (105, q3_0_n2), (101, out_m), (0, wm W)] ?_
    refine VO.k10 0 2 3 4 5 6 7 8 9 25 ?_
    refine VC.ret ?_
    refine outR ?_
    refine outBR ?_
    refine outR ?_
    refine outBR ?_
    refine ⟨_, _, res_run (rs := [.tmp 2, .tmp 3]) rfl (.tmp rfl (.tmp rfl .nil)), fun W_ hI => out_of (l := [out_m]) hI [101] rfl rfl (mle_refl _) (fun hS_ => ?_)⟩
    dsimp only [packV]
    have he0 : ((scanF d0).1 : Ty.Den (.sl TSection)) = out := by first | rfl | (first | (rw [show scanF d0 = _ from scan_end hp (.inl (by first | assumption | simpa using ‹_›))]; done) | (rw [show scanF d0 = _ from scan_end hp (.inr (by omega))]; done))
    refine ⟨Value.slice out_A (out.length) (out_c), ?_, ?_⟩
    rotate_left
    · rw [he0]; exact (Ow.up h_out (hS_.1 _ (.head _)))
    all_goals (first | rfl | (first | (rw [show scanF d0 = _ from scan_end hp (.inl (by first | assumption | simpa using ‹_›))]; done) | (rw [show scanF d0 = _ from scan_end hp (.inr (by omega))]; done)))
  · -- F
    refine VO.gy rfl ⟨_, rfl, rfl⟩ (.fa rfl tst24 rfl) ?_
    refine VO.gy rfl ⟨_, rfl, rfl⟩ (.ld1 107 rfl tk3 rfl (cellsAt_one rfl rfl)) ?_
    refine VO.gy rfl ⟨_, rfl, rfl⟩ (.mv rfl) ?_
    refine VO.gy rfl ⟨_, rfl, rfl⟩ (.leq rfl rfl) ?_
    refine VO.y rfl (.pF rfl rfl) ?_
    refine VO.k8 0 4 5 6 7 8 9 25 ?_
    refine VC.cond rfl (fun hc9 => ?_) (fun hc9 => ?_)
    · -- FT
      refine VC.rs ?_
      refine VO.mv ?_
      refine VO.mv ?_
      refine VO.as ?_
      refine VO.as ?_
      refine VO.kp [107, 105, 101, 0] [(107, mone g6 (.cells [Value.int .i64 (((secRead (d0.drop ((at_).toNat))).1).1), Value.int .i64 (((secRead (d0.drop ((at_).toNat))).1).2.1), Value.slice q3_0_A2 ((((secRead (d0.drop ((at_).toNat))).1).2.2).length) (q3_0_c2)].toArray 24 (0, 0))), (105, q3_0_n2), (101, out_m), (0, wm W)] ?_
      refine VO.k10 0 2 3 4 5 6 7 8 9 25 ?_
      refine VC.ret ?_
      refine outR ?_
      refine outBR ?_
      refine outR ?_
      refine outBR ?_
      refine ⟨_, _, res_run (rs := [.tmp 2, .tmp 3]) rfl (.tmp rfl (.tmp rfl .nil)), fun W_ hI => out_of (l := [out_m]) hI [101] rfl rfl (mle_refl _) (fun hS_ => ?_)⟩
      dsimp only [packV]
      have he0 : ((scanF d0).1 : Ty.Den (.sl TSection)) = out := by first | rfl | (first | (rw [show scanF d0 = _ from scan_end hp (.inl (by first | assumption | simpa using ‹_›))]; done) | (rw [show scanF d0 = _ from scan_end hp (.inr (by omega))]; done))
      refine ⟨Value.slice out_A (out.length) (out_c), ?_, ?_⟩
      rotate_left
      · rw [he0]; exact (Ow.up h_out (hS_.1 _ (.head _)))
      all_goals (first | rfl | (first | (rw [show scanF d0 = _ from scan_end hp (.inl (by first | assumption | simpa using ‹_›))]; done) | (rw [show scanF d0 = _ from scan_end hp (.inr (by omega))]; done)))
    · -- FF
      refine VC.skip ?_
      refine outN ?_
      refine VC.regD _ 11 [(0, true), (1, true), (4, true), (5, true), (6, true), (7, true), (8, true), (2, false), (3, false), (9, true), (10, true)] follows (by kernel_rfl) (fun _ h => h.sub [107, 0]) ?_
      refine VD.y rfl rfl (.inl rfl) (.mv rfl) ?_
      refine VD.y rfl rfl (.inl rfl) (.ldA 107 rfl tk24 rfl (cellsAt_one rfl rfl)) ?_
      refine VD.y rfl rfl (.inl rfl) (.mv rfl) ?_
      refine VD.y rfl rfl (.inl rfl) (.mv rfl) ?_
      refine VD.y rfl rfl (.inl rfl) (.add rfl rfl rfl ⟨bd, bd⟩) ?_
      refine VD.y rfl rfl (.inl rfl) (.fa rfl tst24 rfl) ?_
      refine VD.y rfl rfl (.inl rfl) (.ld1 107 rfl tk3 rfl (cellsAt_one rfl rfl)) ?_
      refine VD.bsl (cs := [Value.int .i64 (((secRead (d0.drop ((at_).toNat))).1).1), Value.int .i64 (((secRead (d0.drop ((at_).toNat))).1).2.1), Value.slice q3_0_A2 ((((secRead (d0.drop ((at_).toNat))).1).2.2).length) (q3_0_c2)]) 111 rfl rfl rfl tsl41 tz24 rfl rfl (fun _ h => h.sub [107, 0]) (fun g10 => ?_)
      refine VD.appO (e := TSection) 101 105 111 rfl rfl rfl rfl tsl41 tz24 rfl rfl rfl rfl h_out (show Ow TSection _ _ ((secRead (d0.drop ((at_).toNat))).1) from (mkO_Section (((secRead (d0.drop ((at_).toNat))).1).1) (((secRead (d0.drop ((at_).toNat))).1).2.1) (((secRead (d0.drop ((at_).toNat))).1).2.2) (Seps.one (mle_refl _)) bdk bdk q3_0_2)) Try.underlying41 (cellsAt_one rfl rfl) bdm bd (by decide) (fun _ _ h => h.sub [107, 0]) (fun v12 m12 ho12 => ?_)
      obtain ⟨A12, c12, rfl, l12, k12⟩ := ho12.slice
      simp only [maxLen] at k12
      refine VD.y rfl rfl (.inl rfl) (.as rfl) ?_
      refine VD.y rfl rfl (.inl rfl) (.as rfl) ?_
      refine VD.nil rfl ?_ rfl
      refine VO.as ?_
      refine VO.kp [101, 107, 0] [(101, m12), (107, mone g6 (.cells [Value.int .i64 (((secRead (d0.drop ((at_).toNat))).1).1), Value.int .i64 (((secRead (d0.drop ((at_).toNat))).1).2.1), Value.slice q3_0_A2 ((((secRead (d0.drop ((at_).toNat))).1).2.2).length) (q3_0_c2)].toArray 24 (0, 0))), (0, wm W)] ?_
      refine VO.k8 0 4 5 6 7 8 9 25 ?_
      refine outBN ?_
      exact outN ⟨⟨out ++ [((secRead (d0.drop ((at_).toNat))).1)], A12, c12, m12, at_ + ((secRead (d0.drop ((at_).toNat))).2.1), ((secRead (d0.drop ((at_).toNat))).1).1, n - 1⟩, ⟨by exact scan_next hp ha0.1 hn (by simp [*]) (by omega), by (have h_ := sec_at d0 ha0.1 ha0.2; dsimp only; omega), by (have h_ := (secRead_bounds (d0.drop at_.toNat)).2.2.1 (by simp [*]); dsimp only; omega), by (have h_ := (secRead_bounds (d0.drop at_.toNat)).2.2.1 (by simp [*]); simp only [List.length_append, List.length_cons, List.length_nil]; omega), ho12⟩, by (have h_ := (secRead_bounds (d0.drop at_.toNat)).2.2.1 (by simp [*]); have h2_ := sec_at d0 ha0.1 ha0.2; dsimp only; omega), ⟨⟨rfl, rfl, rfl, rfl, trivial⟩, fun _ h => Inv.sub h [101, 0]⟩⟩
theorem s19Scan_ok (W : World) {v0 : Value} {d0 : List UInt8} (h0 : Rd (.sl .byte) (wm W) [v0] d0) (e0 : d0.length ≤ 1000000000000) : CallR Try.prog 19 [v0] W (mnil) (fun v m' => ∃ (s0 : Value), v = .tuple #[s0, .int .i64 ((scanF d0).2)] ∧ Ow (.sl TSection) m' [s0] ((scanF d0).1)) := by
  obtain ⟨A0, c0, rfl, l0, k0⟩ := h0.slice
  simp only [maxLen] at k0
  refine CallR.ofA (n := 45) Try.func19 rfl rfl rfl ?_
  refine VC.rs ?_
  refine VO.as ?_
  refine VO.as ?_
  refine VO.k3 0 2 3 ?_
  refine VC.rs ?_
  refine VO.as ?_
  refine VO.k4 0 2 3 4 ?_
  refine VC.rs ?_
  refine VO.as ?_
  refine VO.kp [0] [(0, wm W)] ?_
  refine VO.k5 0 2 3 4 5 ?_
  refine VC.block ?_
  refine VC.inv ((101, mnil) :: _) (fun _ h => h.nilc 101) ?_
  refine VC.loop (G := (List DSection) × (Option Addr) × Nat × Mem × Int × Nat) (fun g => [(4, Value.slice (g.2.1) ((g.1).length) ((g.2.2.1))), (5, Value.int .i64 ((g.2.2.2.2.1))), (0, Value.slice A0 (d0.length) (c0))]) (fun g => [(101, (g.2.2.2.1)), (0, wm W)]) (fun g => (scanF d0 = scanS (g.2.2.2.2.2) d0 (g.1) (g.2.2.2.2.1) (lastEp 0 (g.1))) ∧ (0 ≤ (g.2.2.2.2.1) ∧ (g.2.2.2.2.1) ≤ d0.length) ∧ ((d0.length : Int) - (g.2.2.2.2.1) ≤ (g.2.2.2.2.2)) ∧ (((g.1).length : Int) ≤ (g.2.2.2.2.1)) ∧ (Ow (.sl TSection) (g.2.2.2.1) [.slice (g.2.1) (g.1).length (g.2.2.1)] (g.1))) (fun g => ((d0.length : Int) - (g.2.2.2.2.1)).toNat) ([], none, 0, mnil, 0, d0.length) (⟨by rfl, by (dsimp only; omega), by (dsimp only; omega), by simp, (Ow.nil TSection mnil)⟩) ⟨⟨rfl, rfl, rfl, trivial⟩, fun _ h => h.sub [101, 0]⟩ ?_
  rintro ⟨out, out_A, out_c, out_m, at_, n⟩ ⟨hp, ha0, hn, hl, h_out⟩
  replace hp : scanF d0 = scanS n d0 out at_ (lastEp 0 out) := hp
  replace ha0 : 0 ≤ at_ ∧ at_ ≤ d0.length := ha0
  replace hn : (d0.length : Int) - at_ ≤ n := hn
  replace hl : (out.length : Int) ≤ at_ := hl
  replace h_out : Ow (.sl TSection) out_m [.slice out_A out.length out_c] out := h_out
  show VC _ _ _ _ _ [(4, Value.slice out_A (out.length) (out_c)), (5, Value.int .i64 (at_)), (0, Value.slice A0 (d0.length) (c0))] [(101, out_m), (0, wm W)]
  have l_out : out.length ≤ out_c := by obtain ⟨_, _, he, hl, _⟩ := h_out.slice; simp only [Value.slice.injEq] at he; omega
  have k_out : out_c ≤ 9223372036854775807 := by obtain ⟨_, _, he, _, hl⟩ := h_out.slice; simp only [Value.slice.injEq, maxLen] at he hl; omega
  refine VC.block ?_
  refine VC.rs ?_
  refine VO.mv ?_
  refine VO.mv ?_
  obtain ⟨A2, hA2, hs2⟩ := h0.drop 1 ((at_).toNat) rfl bd
  refine VO.y rfl (.slLI ((at_).toNat) A2 rfl rfl tsl25 bd hA2 bd) ?_
  refine VO.callN 103 rfl fnOk61 rfl (fun W hW => s19read_ok W (Rd.mono hs2 (hW.at (i := 0) rfl))) (fun v3 m3 hv3 => ?_)
  obtain ⟨s3_0, rfl, f3_0⟩ := hv3
  have hfa4 := secRead_bounds (d0.drop ((at_).toNat))
  obtain ⟨q3_0_A2, q3_0_c2, q3_0_n2, rfl, q3_0_S, q3_0_0, q3_0_1, q3_0_2⟩ := openO_Section (x0 := ((secRead (d0.drop ((at_).toNat))).1).1) (x1 := ((secRead (d0.drop ((at_).toNat))).1).2.1) (x2 := ((secRead (d0.drop ((at_).toNat))).1).2.2) f3_0
  simp only [inK] at q3_0_0
  simp only [inK] at q3_0_1
  have q3_0_r2 := q3_0_2.rm
  refine VO.inv _ (fun _ h => h.parts (i := 103) rfl q3_0_S [105]) ?_
  refine VO.mv ?_
  refine VO.y rfl (.ext rfl rfl) ?_
  refine VO.y rfl (.ext rfl rfl) ?_
  refine VO.y rfl (.ext rfl rfl) ?_
  refine VO.alloc 107 rfl tz24 (fun g6 => ?_)
  refine VO.store (k := 3) (c' := [Value.int .i64 (((secRead (d0.drop ((at_).toNat))).1).1), Value.int .i64 (((secRead (d0.drop ((at_).toNat))).1).2.1), Value.slice q3_0_A2 ((((secRead (d0.drop ((at_).toNat))).1).2.2).length) (q3_0_c2)]) 107 rfl rfl (.inl tk24) rfl rfl rfl rfl rfl ?_
  refine VO.as ?_
  refine VO.as ?_
  refine VO.k6 0 4 5 6 7 8 ?_
  refine VC.seq ?_
  refine VC.seq ?_
  refine VC.regD _ 16 [(0, true), (1, true), (2, true), (3, true), (4, true), (5, true), (6, true), (7, true), (8, true), (9, true), (10, true), (11, true), (12, true), (13, true), (14, true), (15, true)] follows (by kernel_rfl) (fun _ h => h.sub [107, 105, 101, 0]) ?_
  refine VD.y rfl rfl (.inl rfl) (.mv rfl) ?_
  refine VD.y rfl rfl (.inl rfl) (.not rfl) ?_
  refine VD.y rfl rfl (.inl rfl) (.mv rfl) ?_
  refine VD.decBN (s := 19) rfl (fun hc8 => ?_) (fun hc8 => ?_)
  · -- T
    refine VD.gn rfl rfl (.inl ⟨_, rfl, rfl⟩) ?_
    refine VD.gn rfl rfl (.inl ⟨_, rfl, rfl⟩) ?_
    refine VD.gn rfl rfl (.inl ⟨_, rfl, rfl⟩) ?_
    refine VD.gn rfl rfl (.inl ⟨_, rfl, rfl⟩) ?_
    refine VD.gn rfl rfl (.inr ⟨_, rfl, rfl⟩) ?_
    refine VD.gn rfl rfl (.inr ⟨_, rfl, rfl⟩) ?_
    refine VD.gn rfl rfl (.inr ⟨_, rfl, rfl⟩) ?_
    refine VD.gn rfl rfl (.inr ⟨_, rfl, rfl⟩) ?_
    refine VD.gn rfl rfl (.inr ⟨_, rfl, rfl⟩) ?_
    refine VD.gn rfl rfl (.inr ⟨_, rfl, rfl⟩) ?_
    refine VD.gn rfl rfl (.inr ⟨_, rfl, rfl⟩) ?_
    refine VD.gn rfl rfl (.inr ⟨_, rfl, rfl⟩) ?_
    refine VD.gn rfl rfl (.inr ⟨_, rfl, rfl⟩) ?_
    refine VD.nil rfl ?_ rfl
    refine VO.gn rfl (.inr ⟨_, rfl, rfl⟩) ?_
    refine VO.gN ?_
    refine VO.y rfl (.pT rfl rfl) ?_
    refine VO.k7 0 4 5 6 7 8 35 ?_
    refine outN ?_
    refine VC.condT rfl ?_
    refine VC.rs ?_
    refine VO.mv ?_
    refine VO.mv ?_
    refine VO.as ?_
    refine VO.as ?_
    refine VO.kp [107, 105, 101, 0] [(107, mone g6 (.cells [Value.int .i64 (((secRead (d0.drop ((at_).toNat))).1).1), Value.int .i64 (((secRead (d0.drop ((at_).toNat))).1).2.1), Value.slice q3_0_A2 ((((secRead (d0.drop ((at_).toNat))).1).2.2).length) (q3_0_c2)].toArray 24 (0, 0))), (105, q3_0_n2), (101, out_m), (0, wm W)] ?_
    refine VO.k9 0 2 3 4 5 6 7 8 35 ?_
    refine VC.ret ?_
    refine outR ?_
    refine outBR ?_
    refine outR ?_
    refine outBR ?_
    refine ⟨_, _, res_run (rs := [.tmp 2, .tmp 3]) rfl (.tmp rfl (.tmp rfl .nil)), fun W_ hI => out_of (l := [out_m]) hI [101] rfl rfl (mle_refl _) (fun hS_ => ?_)⟩
    dsimp only [packV]
    have he0 : ((scanF d0).1 : Ty.Den (.sl TSection)) = out := by first | rfl | (first | (rw [show scanF d0 = _ from scan_end hp (.inl (by first | assumption | simpa using ‹_›))]; done) | (rw [show scanF d0 = _ from scan_end hp (.inr (by rw [lastEp_at (ep := 0) ‹out[_]? = some _› (by omega)]; omega))]; done))
    refine ⟨Value.slice out_A (out.length) (out_c), ?_, ?_⟩
    rotate_left
    · rw [he0]; exact (Ow.up h_out (hS_.1 _ (.head _)))
    all_goals (first | rfl | (first | (rw [show scanF d0 = _ from scan_end hp (.inl (by first | assumption | simpa using ‹_›))]; done) | (rw [show scanF d0 = _ from scan_end hp (.inr (by rw [lastEp_at (ep := 0) ‹out[_]? = some _› (by omega)]; omega))]; done)))
  · -- F
    refine VD.y rfl rfl (.inr ⟨_, _, rfl, _, rfl, rfl⟩) (.mv rfl) ?_
    refine VD.y rfl rfl (.inr ⟨_, _, rfl, _, rfl, rfl⟩) (.lenS rfl tsl41) ?_
    refine VD.y rfl rfl (.inr ⟨_, _, rfl, _, rfl, rfl⟩) (.gtr rfl rfl) ?_
    refine VD.y rfl rfl (.inr ⟨_, _, rfl, _, rfl, rfl⟩) (.mv rfl) ?_
    refine VD.dec (s := 23) rfl (fun hc9 => ?_) (fun hc9 => ?_)
    · -- FT
      refine VD.y rfl rfl (.inr ⟨_, _, rfl, _, rfl, rfl⟩) (.fa rfl tst24 rfl) ?_
      refine VD.y rfl rfl (.inr ⟨_, _, rfl, _, rfl, rfl⟩) (.ld1 107 rfl tk3 rfl (cellsAt_one rfl rfl)) ?_
      refine VD.y rfl rfl (.inr ⟨_, _, rfl, _, rfl, rfl⟩) (.mv rfl) ?_
      refine VD.y rfl rfl (.inr ⟨_, _, rfl, _, rfl, rfl⟩) (.mv rfl) ?_
      refine VD.y rfl rfl (.inr ⟨_, _, rfl, _, rfl, rfl⟩) (.lenS rfl tsl41) ?_
      refine VD.y rfl rfl (.inr ⟨_, _, rfl, _, rfl, rfl⟩) (.sub rfl rfl rfl ⟨bd, bd⟩) ?_
      obtain ⟨x10, hx10⟩ : ∃ z_, (out)[(((out.length : Nat) : Int) - 1).toNat]? = some z_ := ⟨_, List.getElem?_eq_getElem bd⟩
      obtain ⟨gg10, oo10, ec10, ea10, hce10, hre10⟩ := (Ow.rd h_out (mle_refl _)).elem hx10
      cases ea10
      obtain ⟨q10_A2, q10_c2, rfl, q10_0, q10_1, q10_2⟩ := open_Section (x0 := x10.1) (x1 := x10.2.1) (x2 := x10.2.2) hre10
      simp only [inK] at q10_0
      simp only [inK] at q10_1
      have q10_r2 := Rd.room q10_2
      refine VD.y rfl rfl (.inr ⟨_, _, rfl, _, rfl, rfl⟩) (.ixI ((((out.length : Nat) : Int) - 1).toNat) rfl rfl tsl41 bd bd) ?_
      refine VD.y rfl rfl (.inr ⟨_, _, rfl, _, rfl, rfl⟩) (.fa rfl tst24 rfl) ?_
      refine VD.y rfl rfl (.inr ⟨_, _, rfl, _, rfl, rfl⟩) (.ld1 101 rfl tk3 rfl (hce10.at1 (j := 0) rfl)) ?_
      refine VD.nil rfl ?_ rfl
      refine VO.gy rfl ⟨_, rfl, rfl⟩ (.leq rfl rfl) ?_
      refine VO.gy rfl ⟨_, rfl, rfl⟩ (.pT rfl rfl) ?_
      refine VO.y rfl (.pF rfl rfl) ?_
      refine VO.k7 0 4 5 6 7 8 35 ?_
      refine outN ?_
      refine VC.cond rfl (fun hc11 => ?_) (fun hc11 => ?_)
      · -- FTT
        refine VC.rs ?_
        refine VO.mv ?_
        refine VO.mv ?_
        refine VO.as ?_
        refine VO.as ?_
        refine VO.kp [107, 105, 101, 0] [(107, mone g6 (.cells [Value.int .i64 (((secRead (d0.drop ((at_).toNat))).1).1), Value.int .i64 (((secRead (d0.drop ((at_).toNat))).1).2.1), Value.slice q3_0_A2 ((((secRead (d0.drop ((at_).toNat))).1).2.2).length) (q3_0_c2)].toArray 24 (0, 0))), (105, q3_0_n2), (101, out_m), (0, wm W)] ?_
        refine VO.k9 0 2 3 4 5 6 7 8 35 ?_
        refine VC.ret ?_
        refine outR ?_
        refine outBR ?_
        refine outR ?_
        refine outBR ?_
        refine ⟨_, _, res_run (rs := [.tmp 2, .tmp 3]) rfl (.tmp rfl (.tmp rfl .nil)), fun W_ hI => out_of (l := [out_m]) hI [101] rfl rfl (mle_refl _) (fun hS_ => ?_)⟩
        dsimp only [packV]
        have he0 : ((scanF d0).1 : Ty.Den (.sl TSection)) = out := by first | rfl | (first | (rw [show scanF d0 = _ from scan_end hp (.inl (by first | assumption | simpa using ‹_›))]; done) | (rw [show scanF d0 = _ from scan_end hp (.inr (by rw [lastEp_at (ep := 0) ‹out[_]? = some _› (by omega)]; omega))]; done))
        refine ⟨Value.slice (some ⟨gg10, oo10, none⟩) (out.length) (out_c), ?_, ?_⟩
        rotate_left
        · rw [he0]; exact (Ow.up h_out (hS_.1 _ (.head _)))
        all_goals (first | rfl | (first | (rw [show scanF d0 = _ from scan_end hp (.inl (by first | assumption | simpa using ‹_›))]; done) | (rw [show scanF d0 = _ from scan_end hp (.inr (by rw [lastEp_at (ep := 0) ‹out[_]? = some _› (by omega)]; omega))]; done)))
      · -- FTF
        refine VC.skip ?_
        refine outN ?_
        refine VC.rs ?_
        refine VO.mv ?_
        refine VO.y rfl (.ldA 107 rfl tk24 rfl (cellsAt_one rfl rfl)) ?_
        refine VO.bsl (cs := [Value.int .i64 (((secRead (d0.drop ((at_).toNat))).1).1), Value.int .i64 (((secRead (d0.drop ((at_).toNat))).1).2.1), Value.slice q3_0_A2 ((((secRead (d0.drop ((at_).toNat))).1).2.2).length) (q3_0_c2)]) 113 rfl rfl tsl41 tz24 rfl rfl (fun g12 => ?_)
        refine VO.appO (e := TSection) 101 105 113 rfl rfl rfl tsl41 tz24 rfl rfl rfl rfl h_out (show Ow TSection _ _ ((secRead (d0.drop ((at_).toNat))).1) from (mkO_Section (((secRead (d0.drop ((at_).toNat))).1).1) (((secRead (d0.drop ((at_).toNat))).1).2.1) (((secRead (d0.drop ((at_).toNat))).1).2.2) (Seps.one (mle_refl _)) bdk bdk q3_0_2)) Try.underlying41 (cellsAt_one rfl rfl) bdm bd (by decide) (fun v14 m14 ho14 => ?_)
        obtain ⟨A14, c14, rfl, l14, k14⟩ := ho14.slice
        simp only [maxLen] at k14
        refine VO.as ?_
        refine VO.kp [101, 107, 0] [(101, m14), (107, mone g6 (.cells [Value.int .i64 (((secRead (d0.drop ((at_).toNat))).1).1), Value.int .i64 (((secRead (d0.drop ((at_).toNat))).1).2.1), Value.slice q3_0_A2 ((((secRead (d0.drop ((at_).toNat))).1).2.2).length) (q3_0_c2)].toArray 24 (0, 0))), (0, wm W)] ?_
        refine VO.k7 0 4 5 6 7 8 35 ?_
        refine VC.reg ?_
        refine VO.mv ?_
        refine VO.mv ?_
        refine VO.y rfl (.add rfl rfl rfl ⟨bd, bd⟩) ?_
        refine VO.as ?_
        refine VO.k7 0 4 5 6 7 8 35 ?_
        refine outBN ?_
        exact outN ⟨⟨out ++ [((secRead (d0.drop ((at_).toNat))).1)], A14, c14, m14, at_ + ((secRead (d0.drop ((at_).toNat))).2.1), n - 1⟩, ⟨by (rw [lastEp_snoc]; refine scan_next hp ha0.1 hn (by simp [*]) ?_; have h2_ := sect_ok ((secRead_bounds (d0.drop at_.toNat)).2.2.1 (by simp [*])).2; (first | (have e_ := lastEp_at (ep := 0) ‹out[_]? = some _› (by omega)) | (have e_ := lastEp_nil (ep := 0) (l := out) (by omega))); omega), by (have h_ := sec_at d0 ha0.1 ha0.2; dsimp only; omega), by (have h_ := (secRead_bounds (d0.drop at_.toNat)).2.2.1 (by simp [*]); dsimp only; omega), by (have h_ := (secRead_bounds (d0.drop at_.toNat)).2.2.1 (by simp [*]); simp only [List.length_append, List.length_cons, List.length_nil]; omega), ho14⟩, by (have h_ := (secRead_bounds (d0.drop at_.toNat)).2.2.1 (by simp [*]); have h2_ := sec_at d0 ha0.1 ha0.2; dsimp only; omega), ⟨⟨rfl, rfl, rfl, trivial⟩, fun _ h => Inv.sub h [101, 0]⟩⟩
    · -- FF
      refine VD.gn rfl rfl (.inl ⟨_, rfl, rfl⟩) ?_
      refine VD.gn rfl rfl (.inl ⟨_, rfl, rfl⟩) ?_
      refine VD.gn rfl rfl (.inl ⟨_, rfl, rfl⟩) ?_
      refine VD.gn rfl rfl (.inl ⟨_, rfl, rfl⟩) ?_
      refine VD.gn rfl rfl (.inl ⟨_, rfl, rfl⟩) ?_
      refine VD.gn rfl rfl (.inl ⟨_, rfl, rfl⟩) ?_
      refine VD.gn rfl rfl (.inl ⟨_, rfl, rfl⟩) ?_
      refine VD.gn rfl rfl (.inl ⟨_, rfl, rfl⟩) ?_
      refine VD.gn rfl rfl (.inl ⟨_, rfl, rfl⟩) ?_
      refine VD.nil rfl ?_ rfl
      refine VO.gN ?_
      refine VO.gy rfl ⟨_, rfl, rfl⟩ (.pF rfl rfl) ?_
      refine VO.y rfl (.pF rfl rfl) ?_
      refine VO.k7 0 4 5 6 7 8 35 ?_
      refine outN ?_
      refine VC.condF rfl ?_
      refine VC.skip ?_
      refine outN ?_
      refine VC.rs ?_
      refine VO.mv ?_
      refine VO.y rfl (.ldA 107 rfl tk24 rfl (cellsAt_one rfl rfl)) ?_
      refine VO.bsl (cs := [Value.int .i64 (((secRead (d0.drop ((at_).toNat))).1).1), Value.int .i64 (((secRead (d0.drop ((at_).toNat))).1).2.1), Value.slice q3_0_A2 ((((secRead (d0.drop ((at_).toNat))).1).2.2).length) (q3_0_c2)]) 116 rfl rfl tsl41 tz24 rfl rfl (fun g15 => ?_)
      refine VO.appO (e := TSection) 101 105 116 rfl rfl rfl tsl41 tz24 rfl rfl rfl rfl h_out (show Ow TSection _ _ ((secRead (d0.drop ((at_).toNat))).1) from (mkO_Section (((secRead (d0.drop ((at_).toNat))).1).1) (((secRead (d0.drop ((at_).toNat))).1).2.1) (((secRead (d0.drop ((at_).toNat))).1).2.2) (Seps.one (mle_refl _)) bdk bdk q3_0_2)) Try.underlying41 (cellsAt_one rfl rfl) bdm bd (by decide) (fun v17 m17 ho17 => ?_)
      obtain ⟨A17, c17, rfl, l17, k17⟩ := ho17.slice
      simp only [maxLen] at k17
      refine VO.as ?_
      refine VO.kp [101, 107, 0] [(101, m17), (107, mone g6 (.cells [Value.int .i64 (((secRead (d0.drop ((at_).toNat))).1).1), Value.int .i64 (((secRead (d0.drop ((at_).toNat))).1).2.1), Value.slice q3_0_A2 ((((secRead (d0.drop ((at_).toNat))).1).2.2).length) (q3_0_c2)].toArray 24 (0, 0))), (0, wm W)] ?_
      refine VO.k7 0 4 5 6 7 8 35 ?_
      refine VC.reg ?_
      refine VO.mv ?_
      refine VO.mv ?_
      refine VO.y rfl (.add rfl rfl rfl ⟨bd, bd⟩) ?_
      refine VO.as ?_
      refine VO.k7 0 4 5 6 7 8 35 ?_
      refine outBN ?_
      exact outN ⟨⟨out ++ [((secRead (d0.drop ((at_).toNat))).1)], A17, c17, m17, at_ + ((secRead (d0.drop ((at_).toNat))).2.1), n - 1⟩, ⟨by (rw [lastEp_snoc]; refine scan_next hp ha0.1 hn (by simp [*]) ?_; have h2_ := sect_ok ((secRead_bounds (d0.drop at_.toNat)).2.2.1 (by simp [*])).2; (first | (have e_ := lastEp_at (ep := 0) ‹out[_]? = some _› (by omega)) | (have e_ := lastEp_nil (ep := 0) (l := out) (by omega))); omega), by (have h_ := sec_at d0 ha0.1 ha0.2; dsimp only; omega), by (have h_ := (secRead_bounds (d0.drop at_.toNat)).2.2.1 (by simp [*]); dsimp only; omega), by (have h_ := (secRead_bounds (d0.drop at_.toNat)).2.2.1 (by simp [*]); simp only [List.length_append, List.length_cons, List.length_nil]; omega), ho17⟩, by (have h_ := (secRead_bounds (d0.drop at_.toNat)).2.2.1 (by simp [*]); have h2_ := sec_at d0 ha0.1 ha0.2; dsimp only; omega), ⟨⟨rfl, rfl, rfl, trivial⟩, fun _ h => Inv.sub h [101, 0]⟩⟩
end
section
set_option linter.unusedVariables false
/-- file by file a front part -/
def leQ (p q : Dur) : Prop := ∀ f : Int, inF f → getF p f <+: getF q f
theorem leQ.trans {p q r : Dur} (h : leQ p q) (h' : leQ q r) : leQ p r := fun f hf => (h f hf).trans (h' f hf)
def begB (b a : Bytes) : Prop := a.length ≤ b.length ∧ b.take a.length = a
instance (b a : Bytes) : Decidable (begB b a) := by unfold begB; infer_instance
end
section
set_option linter.unusedVariables false
/-- what the files hold -/
def curD (d : DDisk) : Dur := play d.2.2.2.2.2.1 d.2.2.2.2.2.2
theorem cur_burn (d : DDisk) : curD (burnD d).1 = curD d := by unfold curD; rw [(burn_same d).2]
theorem dur_burn (d : DDisk) : (burnD d).1.2.2.2.2.2.1 = d.2.2.2.2.2.1 := by rw [(burn_same d).2]
theorem made_burn (d : DDisk) : (burnD d).1.1 = d.1 := (burn_same d).1
/-- a disk, on or off, with or without a fuse, to which there were only writes since it was synced -/
structure Pg (d : DDisk) (A S : Dur) : Prop where
  ok : okD d
  made : d.1 = true
  all : ∀ s ∈ d.2.2.2.2.2.2, s.1 = 0 ∧ inF s.2.1
  dur : d.2.2.2.2.2.1 = S
  ends : curD d = A
section
variable {d : DDisk} {A S : Dur} {f n k t : Int} {b : Bytes}
theorem Pg.right (h : Pg d A S) (ho : d.2.1 = false) : wrongD d = 0 := by unfold wrongD; rw [if_neg (by rw [h.made]; decide), if_neg (by rw [ho]; decide)]
theorem Pg.burn (h : Pg d A S) : Pg (burnD d).1 A S := ⟨burn_ok h.ok, by rw [made_burn]; exact h.made, by rw [(burn_same d).2]; exact h.all, by rw [dur_burn]; exact h.dur, by rw [cur_burn]; exact h.ends⟩
end
end
section
set_option linter.unusedVariables false
def Tw (d : DDisk) (r : DRDisk) : Prop := okD d ∧ fromR r = d
theorem Tw.keep {d d' : DDisk} {r : DRDisk} {x : Int} (h : Tw d r) (hk : okD d') (hn : nf d') : Tw d' (toR d' x) := ⟨hk, from_to hk hn⟩
theorem Tw.nf {d : DDisk} {r : DRDisk} (h : Tw d r) : nf d := by rw [← h.2]; exact nf_from r
section
variable {d : DDisk} {r : DRDisk} (h : Tw d r)
include h
theorem Tw.fuse {n : Int} : Tw (dFuse d n).1 (toR (dFuse (fromR r) n).1 r.2.2.2.2.2.1) ∧ (dFuse (fromR r) n).2 = (dFuse d n).2 := by rw [h.2]; exact ⟨h.keep (fuse_ok h.1) (nf_fuse h.nf), rfl⟩
theorem Tw.start {k t : Int} : Tw (dStart d k t).1 (toR (dStart (fromR r) k t).1 r.2.2.2.2.2.1) ∧ (dStart (fromR r) k t).2 = (dStart d k t).2 := by rw [h.2]; exact ⟨h.keep (start_ok h.1) (nf_start h.nf), rfl⟩
end
end
section
set_option linter.unusedVariables false
def riseS : Int → List DSection → Prop
  | _, [] => True
  | ep, s :: l => sectCheck s = 0 ∧ ep < s.1 ∧ riseS s.1 l
def sectEncs (l : List DSection) : Bytes := (l.map sectEnc).flatten
theorem sectEncs_cons (s : DSection) (l : List DSection) : sectEncs (s :: l) = sectEnc s ++ sectEncs l := rfl
theorem scan_rise : ∀ {l : List DSection} {B r : Bytes} {out : List DSection} {a k : Nat} {ep : Int}, riseS ep l → B.drop a = sectEncs l ++ r → B.length - a ≤ k → (secRead r).2.2 = false → scanS k B out (a : Int) ep = (out ++ l, ((a + (sectEncs l).length : Nat) : Int))
  | [], B, r, out, a, k, ep, _, hd, hk, hr => by
    have hd' : B.drop (a : Int).toNat = r := by rw [Int.toNat_natCast, hd]; rfl
    rw [scan_end rfl (.inl (by rw [hd']; exact hr))]
    simp [sectEncs]
  | s :: l, B, r, out, a, k, ep, h, hd, hk, hr => by
    obtain ⟨h1, h2, h3⟩ := h
    rw [sectEncs_cons, List.append_assoc] at hd
    have hd' : secRead (B.drop (a : Int).toNat) = (s, ((sectEnc s).length : Int), true) := by rw [Int.toNat_natCast, hd]; exact secRead_there h1 _
    have hl := congrArg List.length hd
    have hp := (sectEnc_len h1).2.2
    simp only [List.length_drop, List.length_append] at hl
    rw [scan_next rfl (Int.natCast_nonneg _) (by omega) (by rw [hd']; simp) (by rw [hd']; dsimp only; omega), hd']
    dsimp only
    have hn : B.drop (a + (sectEnc s).length) = sectEncs l ++ r := by rw [← List.drop_drop, hd, List.drop_left]
    rw [← Int.natCast_add, scan_rise h3 hn (by omega) hr, sectEncs_cons]
    simp [Nat.add_assoc]
theorem scan_whole {l : List DSection} {r : Bytes} (h : riseS 0 l) (hr : (secRead r).2.2 = false) : scanF (sectEncs l ++ r) = (l, ((sectEncs l).length : Int)) := by
  have := scan_rise (B := sectEncs l ++ r) (out := []) (a := 0) (k := (sectEncs l ++ r).length) h rfl (by simp) hr
  unfold scanF
  rw [show ((0 : Nat) : Int) = 0 from rfl] at this
  rw [this]; simp
theorem sec_nil : (secRead []).2.2 = false := by
  have h := fRead_bounds []
  have : ¬ (fRead []).2.2 = 0 := fun q => by have h1 := h.2.2.2.2.1 q; have h2 := h.2.1; simp only [List.length_nil] at h2; omega
  rw [sec_no1 this]
def smallS (s : DSection) : Prop := (∀ c ∈ s.2.2, c.2.2.length ≤ 40) ∧ s.2.2.length ≤ 40
instance (s : DSection) : Decidable (smallS s) := by unfold smallS; infer_instance
end
section
set_option linter.unusedVariables false
set_option linter.unusedSimpArgs false
set_option maxRecDepth 4000
theorem fnOk16 : fnOk Try.prog 16 = true := by kernel_rfl
theorem fnOk17 : fnOk Try.prog 17 = true := by kernel_rfl
theorem fnOk18 : fnOk Try.prog 18 = true := by kernel_rfl
theorem fnOk19 : fnOk Try.prog 19 = true := by kernel_rfl
theorem fnOk63 : fnOk Try.prog 63 = true := by kernel_rfl
theorem SameSections_ok (W : World) {v0 : Value} {d0 : List DSection} (h0 : Rd (.sl TSection) (wm W) [v0] d0) {v1 : Value} {d1 : List DSection} (h1 : Rd (.sl TSection) (wm W) [v1] d1) : CallR Try.prog 22 [v0, v1] W (mnil) (fun v m' => v = .bool (decide (d0 = d1))) := by
  obtain ⟨A0, c0, rfl, l0, k0⟩ := h0.slice
  simp only [maxLen] at k0
  obtain ⟨A1, c1, rfl, l1, k1⟩ := h1.slice
  simp only [maxLen] at k1
  refine CallR.ofA (n := 55) Try.func22 rfl rfl rfl ?_
  refine VC.rs ?_
  refine VO.as ?_
  refine VO.k3 0 1 4 ?_
  refine VC.seq ?_
  refine VC.rs ?_
  refine VO.mv ?_
  refine VO.y rfl (.lenS rfl tsl41) ?_
  refine VO.mv ?_
  refine VO.y rfl (.lenS rfl tsl41) ?_
  refine VO.y rfl (.neq rfl rfl) ?_
  refine VO.k4 0 1 4 10 ?_
  refine VC.cond rfl (fun hc1 => ?_) (fun hc1 => ?_)
  · -- T
    refine VC.rs ?_
    refine VO.as ?_
    refine VO.kp [0] [(0, wm W)] ?_
    refine VO.k4 0 1 4 10 ?_
    refine VC.ret ?_
    refine outR ?_
    refine ⟨_, _, res_run (rs := [.tmp 4]) rfl (.tmp rfl .nil), fun W_ hI => out_of (l := []) hI [] rfl rfl (mle_refl _) (fun hS_ => ?_)⟩
    dsimp only [packV]
    all_goals (first | rfl | (simp [len_ne hc1]))
  · -- F
    refine VC.skip ?_
    refine outN ?_
    refine VC.seq ?_
    refine VC.rs ?_
    refine VO.as ?_
    refine VO.kp [0] [(0, wm W)] ?_
    refine VO.k5 0 1 4 5 10 ?_
    refine VC.block ?_
    refine VC.loop (G := Nat) (fun k => [(5, Value.int .i64 (((k : Nat) : Int))), (0, Value.slice A0 (d0.length) (c0)), (1, Value.slice A1 (d1.length) (c1)), (10, Value.bool (decide (¬ ((d0.length : Nat) : Int) = ((d1.length : Nat) : Int))))]) (fun k => [(0, wm W)]) (fun k => (k ≤ d0.length) ∧ (d0.take k = d1.take k)) (fun k => d0.length - k) 0 (⟨by omega, by rfl⟩) ⟨⟨rfl, rfl, rfl, rfl, trivial⟩, fun _ h => h.sub [0]⟩ ?_
    rintro k ⟨hk, ht⟩
    refine VC.seq ?_
    refine VC.rs ?_
    refine VO.mv ?_
    refine VO.mv ?_
    refine VO.y rfl (.lenS rfl tsl41) ?_
    refine VO.y rfl (.lss rfl rfl) ?_
    refine VO.k5 0 1 5 10 14 ?_
    refine VC.cond rfl (fun hc2 => ?_) (fun hc2 => ?_)
    · -- FT
      refine VC.skip ?_
      refine outN ?_
      refine VC.seq ?_
      refine VC.block ?_
      refine VC.seq ?_
      refine VC.regD _ 35 [(0, true), (1, true), (2, true), (3, true), (4, true), (5, true), (6, true), (7, true), (8, true), (9, true), (10, true), (11, true), (12, true), (13, true), (14, true), (15, true), (16, true), (17, true), (18, true), (19, true), (20, true), (21, true), (22, true), (23, true), (24, true), (25, true), (26, true), (27, true), (28, true), (29, true), (30, true), (31, true), (32, true), (33, true), (34, true)] follows (by kernel_rfl) (fun _ h => h.sub [0]) ?_
      refine VD.y rfl rfl (.inl rfl) (.mv rfl) ?_
      refine VD.y rfl rfl (.inl rfl) (.mv rfl) ?_
      obtain ⟨x3, hx3⟩ : ∃ z_, (d0)[k]? = some z_ := ⟨_, List.getElem?_eq_getElem bd⟩
      obtain ⟨gg3, oo3, ec3, ea3, hce3, hre3⟩ := h0.elem hx3
      cases ea3
      obtain ⟨q3_A2, q3_c2, rfl, q3_0, q3_1, q3_2⟩ := open_Section (x0 := x3.1) (x1 := x3.2.1) (x2 := x3.2.2) hre3
      simp only [inK] at q3_0
      simp only [inK] at q3_1
      have q3_r2 := Rd.room q3_2
      refine VD.y rfl rfl (.inl rfl) (.ixI k rfl rfl tsl41 rfl bd) ?_
      refine VD.y rfl rfl (.inl rfl) (.fa rfl tst24 rfl) ?_
      refine VD.y rfl rfl (.inl rfl) (.ld1 0 rfl tk3 rfl (hce3.at1 (j := 0) rfl)) ?_
      refine VD.y rfl rfl (.inl rfl) (.mv rfl) ?_
      refine VD.y rfl rfl (.inl rfl) (.mv rfl) ?_
      obtain ⟨x4, hx4⟩ : ∃ z_, (d1)[k]? = some z_ := ⟨_, List.getElem?_eq_getElem bd⟩
      obtain ⟨gg4, oo4, ec4, ea4, hce4, hre4⟩ := h1.elem hx4
      cases ea4
      obtain ⟨q4_A2, q4_c2, rfl, q4_0, q4_1, q4_2⟩ := open_Section (x0 := x4.1) (x1 := x4.2.1) (x2 := x4.2.2) hre4
      simp only [inK] at q4_0
      simp only [inK] at q4_1
      have q4_r2 := Rd.room q4_2
      refine VD.y rfl rfl (.inl rfl) (.ixI k rfl rfl tsl41 rfl bd) ?_
      refine VD.y rfl rfl (.inl rfl) (.fa rfl tst24 rfl) ?_
      refine VD.y rfl rfl (.inl rfl) (.ld1 0 rfl tk3 rfl (hce4.at1 (j := 0) rfl)) ?_
      refine VD.y rfl rfl (.inl rfl) (.neq rfl rfl) ?_
      refine VD.y rfl rfl (.inl rfl) (.mv rfl) ?_
      refine VD.dec (s := 28) rfl (fun hc5 => ?_) (fun hc5 => ?_)
      · -- FTT
        refine VD.gn rfl rfl (.inl ⟨_, rfl, rfl⟩) ?_
        refine VD.gn rfl rfl (.inl ⟨_, rfl, rfl⟩) ?_
        refine VD.gn rfl rfl (.inl ⟨_, rfl, rfl⟩) ?_
        refine VD.gn rfl rfl (.inl ⟨_, rfl, rfl⟩) ?_
        refine VD.gn rfl rfl (.inl ⟨_, rfl, rfl⟩) ?_
        refine VD.gn rfl rfl (.inl ⟨_, rfl, rfl⟩) ?_
        refine VD.gn rfl rfl (.inl ⟨_, rfl, rfl⟩) ?_
        refine VD.gn rfl rfl (.inl ⟨_, rfl, rfl⟩) ?_
        refine VD.gn rfl rfl (.inl ⟨_, rfl, rfl⟩) ?_
        refine VD.gn rfl rfl (.inl ⟨_, rfl, rfl⟩) ?_
        refine VD.gn rfl rfl (.inl ⟨_, rfl, rfl⟩) ?_
        refine VD.y rfl rfl (.inl rfl) (.pT rfl rfl) ?_
        refine VD.y rfl rfl (.inl rfl) (.mv rfl) ?_
        refine VD.gn rfl rfl (.inl ⟨_, rfl, rfl⟩) ?_
        refine VD.gn rfl rfl (.inl ⟨_, rfl, rfl⟩) ?_
        refine VD.gn rfl rfl (.inl ⟨_, rfl, rfl⟩) ?_
        refine VD.gn rfl rfl (.inl ⟨_, rfl, rfl⟩) ?_
        refine VD.gn rfl rfl (.inl ⟨_, rfl, rfl⟩) ?_
        refine VD.gn rfl rfl (.inl ⟨_, rfl, rfl⟩) ?_
        refine VD.gn rfl rfl (.inl ⟨_, rfl, rfl⟩) ?_
        refine VD.gn rfl rfl (.inl ⟨_, rfl, rfl⟩) ?_
        refine VD.gn rfl rfl (.inl ⟨_, rfl, rfl⟩) ?_
        refine VD.gn rfl rfl (.inl ⟨_, rfl, rfl⟩) ?_
        refine VD.nil rfl ?_ rfl
        refine VO.gN ?_
        refine VO.gN ?_
        refine VO.y rfl (.pT rfl rfl) ?_
        refine VO.k6 0 1 5 10 14 54 ?_
        refine outN ?_
        refine VC.condT rfl ?_
        refine VC.rs ?_
        refine VO.as ?_
        refine VO.kp [0] [(0, wm W)] ?_
        refine VO.k7 0 1 4 5 10 14 54 ?_
        refine VC.ret ?_
        refine outBR ?_
        refine outR ?_
        refine outR ?_
        refine outBR ?_
        refine outR ?_
        refine ⟨_, _, res_run (rs := [.tmp 4]) rfl (.tmp rfl .nil), fun W_ hI => out_of (l := []) hI [] rfl rfl (mle_refl _) (fun hS_ => ?_)⟩
        dsimp only [packV]
        all_goals (first | rfl | (exact congrArg Value.bool (decide_eq_false (get_ne ‹d0[k]? = some _› ‹d1[k]? = some _› (fun e => by subst e; first | exact absurd rfl ‹¬ _ = _› | omega))).symm))
      · -- FTF
        refine VD.y rfl rfl (.inr ⟨_, _, rfl, _, rfl, rfl⟩) (.mv rfl) ?_
        refine VD.y rfl rfl (.inr ⟨_, _, rfl, _, rfl, rfl⟩) (.mv rfl) ?_
        refine VD.y rfl rfl (.inr ⟨_, _, rfl, _, rfl, rfl⟩) (.ixI k rfl rfl tsl41 rfl bd) ?_
        refine VD.y rfl rfl (.inr ⟨_, _, rfl, _, rfl, rfl⟩) (.fa rfl tst24 rfl) ?_
        refine VD.y rfl rfl (.inr ⟨_, _, rfl, _, rfl, rfl⟩) (.ld1 0 rfl tk3 rfl (hce3.at1 (j := 1) rfl)) ?_
        refine VD.y rfl rfl (.inr ⟨_, _, rfl, _, rfl, rfl⟩) (.mv rfl) ?_
        refine VD.y rfl rfl (.inr ⟨_, _, rfl, _, rfl, rfl⟩) (.mv rfl) ?_
        refine VD.y rfl rfl (.inr ⟨_, _, rfl, _, rfl, rfl⟩) (.ixI k rfl rfl tsl41 rfl bd) ?_
        refine VD.y rfl rfl (.inr ⟨_, _, rfl, _, rfl, rfl⟩) (.fa rfl tst24 rfl) ?_
        refine VD.y rfl rfl (.inr ⟨_, _, rfl, _, rfl, rfl⟩) (.ld1 0 rfl tk3 rfl (hce4.at1 (j := 1) rfl)) ?_
        refine VD.y rfl rfl (.inr ⟨_, _, rfl, _, rfl, rfl⟩) (.neq rfl rfl) ?_
        refine VD.y rfl rfl (.inl rfl) (.pF rfl rfl) ?_
        refine VD.y rfl rfl (.inl rfl) (.mv rfl) ?_
        refine VD.dec (s := 41) rfl (fun hc8 => ?_) (fun hc8 => ?_)
        · -- FTFT
          refine VD.gn rfl rfl (.inl ⟨_, rfl, rfl⟩) ?_
          refine VD.gn rfl rfl (.inl ⟨_, rfl, rfl⟩) ?_
          refine VD.gn rfl rfl (.inl ⟨_, rfl, rfl⟩) ?_
          refine VD.gn rfl rfl (.inl ⟨_, rfl, rfl⟩) ?_
          refine VD.gn rfl rfl (.inl ⟨_, rfl, rfl⟩) ?_
          refine VD.gn rfl rfl (.inl ⟨_, rfl, rfl⟩) ?_
          refine VD.gn rfl rfl (.inl ⟨_, rfl, rfl⟩) ?_
          refine VD.gn rfl rfl (.inl ⟨_, rfl, rfl⟩) ?_
          refine VD.gn rfl rfl (.inl ⟨_, rfl, rfl⟩) ?_
          refine VD.gn rfl rfl (.inl ⟨_, rfl, rfl⟩) ?_
          refine VD.nil rfl ?_ rfl
          refine VO.gN ?_
          refine VO.gN ?_
          refine VO.y rfl (.pT rfl rfl) ?_
          refine VO.k6 0 1 5 10 14 54 ?_
          refine outN ?_
          refine VC.condT rfl ?_
          refine VC.rs ?_
          refine VO.as ?_
          refine VO.kp [0] [(0, wm W)] ?_
          refine VO.k7 0 1 4 5 10 14 54 ?_
          refine VC.ret ?_
          refine outBR ?_
          refine outR ?_
          refine outR ?_
          refine outBR ?_
          refine outR ?_
          refine ⟨_, _, res_run (rs := [.tmp 4]) rfl (.tmp rfl .nil), fun W_ hI => out_of (l := []) hI [] rfl rfl (mle_refl _) (fun hS_ => ?_)⟩
          dsimp only [packV]
          all_goals (first | rfl | (exact congrArg Value.bool (decide_eq_false (get_ne ‹d0[k]? = some _› ‹d1[k]? = some _› (fun e => by subst e; first | exact absurd rfl ‹¬ _ = _› | omega))).symm))
        · -- FTFF
          refine VD.y rfl rfl (.inr ⟨_, _, rfl, _, rfl, rfl⟩) (.mv rfl) ?_
          refine VD.y rfl rfl (.inr ⟨_, _, rfl, _, rfl, rfl⟩) (.mv rfl) ?_
          refine VD.y rfl rfl (.inr ⟨_, _, rfl, _, rfl, rfl⟩) (.ixI k rfl rfl tsl41 rfl bd) ?_
          refine VD.y rfl rfl (.inr ⟨_, _, rfl, _, rfl, rfl⟩) (.fa rfl tst24 rfl) ?_
          refine VD.y rfl rfl (.inr ⟨_, _, rfl, _, rfl, rfl⟩) (.ld1 0 rfl tk22 rfl (hce3.at1 (j := 2) rfl)) ?_
          refine VD.y rfl rfl (.inr ⟨_, _, rfl, _, rfl, rfl⟩) (.mv rfl) ?_
          refine VD.y rfl rfl (.inr ⟨_, _, rfl, _, rfl, rfl⟩) (.mv rfl) ?_
          refine VD.y rfl rfl (.inr ⟨_, _, rfl, _, rfl, rfl⟩) (.ixI k rfl rfl tsl41 rfl bd) ?_
          refine VD.y rfl rfl (.inr ⟨_, _, rfl, _, rfl, rfl⟩) (.fa rfl tst24 rfl) ?_
          refine VD.y rfl rfl (.inr ⟨_, _, rfl, _, rfl, rfl⟩) (.ld1 0 rfl tk22 rfl (hce4.at1 (j := 2) rfl)) ?_
          refine VD.nil rfl ?_ rfl
          refine VO.gcallN 111 rfl ⟨_, rfl, rfl⟩ fnOk63 rfl (fun W hW => SameCommits_ok W (Rd.mono q3_2 (hW.at (i := 0) rfl)) (Rd.mono q4_2 (hW.at (i := 0) rfl))) (fun v11 m11 hv11 => ?_)
          subst hv11
          refine VO.gy rfl ⟨_, rfl, rfl⟩ (.notD rfl) ?_
          refine VO.y rfl (.pF rfl rfl) ?_
          refine VO.k6 0 1 5 10 14 54 ?_
          refine outN ?_
          refine VC.cond rfl (fun hc12 => ?_) (fun hc12 => ?_)
          · -- FTFFT
            refine VC.rs ?_
            refine VO.as ?_
            refine VO.kp [0] [(0, wm W)] ?_
            refine VO.k7 0 1 4 5 10 14 54 ?_
            refine VC.ret ?_
            refine outBR ?_
            refine outR ?_
            refine outR ?_
            refine outBR ?_
            refine outR ?_
            refine ⟨_, _, res_run (rs := [.tmp 4]) rfl (.tmp rfl .nil), fun W_ hI => out_of (l := []) hI [] rfl rfl (mle_refl _) (fun hS_ => ?_)⟩
            dsimp only [packV]
            all_goals (first | rfl | (exact congrArg Value.bool (decide_eq_false (get_ne ‹d0[k]? = some _› ‹d1[k]? = some _› (fun e => by subst e; first | exact absurd rfl ‹¬ _ = _› | omega))).symm))
          · -- FTFFF
            refine VC.skip ?_
            refine outBN ?_
            refine outN ?_
            refine VC.reg ?_
            refine VO.mv ?_
            refine VO.y rfl (.add (c := ((k + 1 : Nat) : Int)) rfl rfl (by omega) ⟨bd, bd⟩) ?_
            refine VO.as ?_
            refine VO.kp [0] [(0, wm W)] ?_
            refine VO.k6 0 1 5 10 14 54 ?_
            exact outN ⟨k + 1, ⟨by omega, by exact take_next ht ‹d0[k]? = some _› ‹d1[k]? = some _› (Prod.ext (by omega) (Prod.ext (by omega) (Decidable.not_not.1 (by assumption))))⟩, bd, ⟨⟨rfl, rfl, rfl, rfl, trivial⟩, fun _ h => Inv.sub h [0]⟩⟩
    · -- FF
      refine VC.exit ?_
      refine outE ?_
      refine outE ?_
      refine outBB ?_
      refine outN ?_
      refine VC.rs ?_
      refine VO.as ?_
      refine VO.k6 0 1 4 5 10 14 ?_
      refine VC.ret ?_
      refine ⟨_, _, res_run (rs := [.tmp 4]) rfl (.tmp rfl .nil), fun W_ hI => out_of (l := []) hI [] rfl rfl (mle_refl _) (fun hS_ => ?_)⟩
      dsimp only [packV]
      all_goals (first | rfl | (simp [take_all ht (by omega) (by omega)]))
theorem oHas_ok (W : World) {v0 : Value} {d0 : List UInt8} (h0 : Rd (.sl .byte) (wm W) [v0] d0) (d1 : Int) (h1 : inK .i64 d1) (d2 : Int) (h2 : inK .i64 d2) (e0 : d0.length ≤ 1000000000000) : CallR Try.prog 12 [v0, .int .i64 d1, .int .i64 d2] W (mnil) (fun v m' => v = .bool (hasS (scanF d0).1 d1 d2)) := by
  obtain ⟨A0, c0, rfl, l0, k0⟩ := h0.slice
  simp only [maxLen] at k0
  have h1' := h1; simp only [inK] at h1'
  have h2' := h2; simp only [inK] at h2'
  refine CallR.ofA (n := 43) Try.func12 rfl rfl rfl ?_
  refine VC.rs ?_
  refine VO.as ?_
  refine VO.k4 0 1 2 6 ?_
  refine VC.rs ?_
  refine VO.mv ?_
  refine VO.callN 101 rfl fnOk18 rfl (fun W hW => oScan_ok W (Rd.mono h0 (hW.at (i := 0) rfl)) bd) (fun v1 m1 hv1 => ?_)
  obtain ⟨s1_0, rfl, f1_0⟩ := hv1
  have hfa2 := scanF_bounds d0
  obtain ⟨A1_0, c1_0, eq1_0, l1_0, k1_0⟩ := f1_0.slice
  subst eq1_0
  simp only [maxLen] at k1_0
  refine VO.mv ?_
  refine VO.y rfl (.ext rfl rfl) ?_
  refine VO.y rfl (.ext rfl rfl) ?_
  refine VO.as ?_
  refine VO.as ?_
  refine VO.k5 0 1 2 6 7 ?_
  refine VC.seq ?_
  refine VC.rs ?_
  refine VO.mv ?_
  refine VO.y rfl (.lenS rfl tsl41) ?_
  refine VO.mv ?_
  refine VO.kp [101, 0] [(101, m1), (0, wm W)] ?_
  refine VO.k8 0 1 2 6 7 18 19 20 ?_
  refine VC.block ?_
  refine VC.loop (G := Nat) (fun k => [(20, Value.int .i64 (((k : Nat) : Int))), (0, Value.slice A0 (d0.length) (c0)), (1, Value.int .i64 (d1)), (2, Value.int .i64 (d2)), (7, Value.slice A1_0 (((scanF d0).1).length) (c1_0)), (18, Value.slice A1_0 (((scanF d0).1).length) (c1_0)), (19, Value.int .i64 (((((scanF d0).1).length : Nat) : Int)))]) (fun k => [(101, m1), (0, wm W)]) (fun k => (k ≤ (scanF d0).1.length) ∧ (((scanF d0).1.take k).any (fun s => s.2.2.any fun c => decide (c.1 = d1 ∧ c.2.1 = d2)) = false)) (fun k => (scanF d0).1.length - k) 0 (⟨by first | omega | (dsimp only; omega), by rfl⟩) ⟨⟨rfl, rfl, rfl, rfl, rfl, rfl, rfl, trivial⟩, fun _ h => h.sub [101, 0]⟩ ?_
  rintro k ⟨hk, ha⟩
  refine VC.rs ?_
  refine VO.y rfl (.lss rfl rfl) ?_
  refine VO.k8 0 1 2 7 18 19 20 21 ?_
  refine VC.seq ?_
  refine VC.cond rfl (fun hc3 => ?_) (fun hc3 => ?_)
  · -- T
    refine VC.skip ?_
    refine outN ?_
    refine VC.seq ?_
    refine VC.block ?_
    refine VC.rs ?_
    obtain ⟨x4, hx4⟩ : ∃ z_, ((scanF d0).1)[k]? = some z_ := ⟨_, List.getElem?_eq_getElem bd⟩
    obtain ⟨gg4, oo4, ec4, ea4, hce4, hre4⟩ := (Ow.rd f1_0 (mle_refl _)).elem hx4
    cases ea4
    obtain ⟨q4_A2, q4_c2, rfl, q4_0, q4_1, q4_2⟩ := open_Section (x0 := x4.1) (x1 := x4.2.1) (x2 := x4.2.2) hre4
    simp only [inK] at q4_0
    simp only [inK] at q4_1
    have q4_r2 := Rd.room q4_2
    refine VO.y rfl (.ixI k rfl rfl tsl41 rfl bd) ?_
    refine VO.y rfl (.ldA 101 rfl tk24 rfl hce4) ?_
    refine VO.alloc 106 rfl tz24 (fun g5 => ?_)
    refine VO.store (k := 3) (c' := [Value.int .i64 (x4.1), Value.int .i64 (x4.2.1), Value.slice q4_A2 (x4.2.2.length) (q4_c2)]) 106 rfl rfl (.inl tk24) rfl rfl rfl rfl rfl ?_
    refine VO.k9 0 1 2 7 10 18 19 20 21 ?_
    refine VC.rs ?_
    refine VO.y rfl (.fa rfl tst24 rfl) ?_
    refine VO.y rfl (.ld1 106 rfl tk22 rfl (cellsAt_one rfl rfl)) ?_
    refine VO.y rfl (.lenS rfl tsl22) ?_
    refine VO.mv ?_
    refine VO.kp [106, 101, 0] [(106, mone g5 (.cells [Value.int .i64 (x4.1), Value.int .i64 (x4.2.1), Value.slice q4_A2 (x4.2.2.length) (q4_c2)].toArray 24 (0, 0))), (101, m1), (0, wm W)] ?_
    refine VO.k12 0 1 2 7 10 18 19 20 21 25 26 27 ?_
    refine VC.block ?_
    refine VC.loop (G := Nat) (fun j => [(27, Value.int .i64 (((j : Nat) : Int))), (0, Value.slice A0 (d0.length) (c0)), (1, Value.int .i64 (d1)), (2, Value.int .i64 (d2)), (7, Value.slice (some ⟨gg4, oo4, none⟩) (((scanF d0).1).length) (c1_0)), (10, Value.pointer (some ⟨g5, 0, none⟩)), (18, Value.slice (some ⟨gg4, oo4, none⟩) (((scanF d0).1).length) (c1_0)), (19, Value.int .i64 (((((scanF d0).1).length : Nat) : Int))), (20, Value.int .i64 (((k : Nat) : Int))), (21, Value.bool (decide (((k : Nat) : Int) < ((((scanF d0).1).length : Nat) : Int)))), (25, Value.slice q4_A2 (x4.2.2.length) (q4_c2)), (26, Value.int .i64 (((x4.2.2.length : Nat) : Int)))]) (fun j => [(106, mone g5 (.cells [Value.int .i64 (x4.1), Value.int .i64 (x4.2.1), Value.slice q4_A2 (x4.2.2.length) (q4_c2)].toArray 24 (0, 0))), (101, m1), (0, wm W)]) (fun j => (j ≤ x4.2.2.length) ∧ ((x4.2.2.take j).any (fun c => decide (c.1 = d1 ∧ c.2.1 = d2)) = false)) (fun j => x4.2.2.length - j) 0 (⟨by omega, by rfl⟩) ⟨⟨rfl, rfl, rfl, rfl, rfl, rfl, rfl, rfl, rfl, rfl, rfl, rfl, trivial⟩, fun _ h => h.sub [106, 101, 0]⟩ ?_
    rintro j ⟨hj, hb⟩
    refine VC.rs ?_
    refine VO.y rfl (.lss rfl rfl) ?_
    refine VO.k13 0 1 2 7 10 18 19 20 21 25 26 27 28 ?_
    refine VC.seq ?_
    refine VC.cond rfl (fun hc7 => ?_) (fun hc7 => ?_)
    · -- TT
      refine VC.skip ?_
      refine outN ?_
      refine VC.seq ?_
      refine VC.block ?_
      refine VC.rs ?_
      obtain ⟨x8, hx8⟩ : ∃ z_, (x4.2.2)[j]? = some z_ := ⟨_, List.getElem?_eq_getElem bd⟩
      obtain ⟨gg8, oo8, ec8, ea8, hce8, hre8⟩ := q4_2.elem hx8
      cases ea8
      obtain ⟨q8_A2, q8_c2, rfl, q8_0, q8_1, q8_2⟩ := open_Commit (x0 := x8.1) (x1 := x8.2.1) (x2 := x8.2.2) hre8
      simp only [inK] at q8_0
      simp only [inK] at q8_1
      have q8_r2 := Rd.room q8_2
      refine VO.y rfl (.ixI j rfl rfl tsl22 rfl bd) ?_
      refine VO.y rfl (.ldA 101 rfl tk32 rfl hce8) ?_
      refine VO.alloc 110 rfl tz32 (fun g9 => ?_)
      refine VO.store (k := 3) (c' := [Value.int .i64 (x8.1), Value.int .i64 (x8.2.1), Value.slice q8_A2 (x8.2.2.length) (q8_c2)]) 110 rfl rfl (.inl tk32) rfl rfl rfl rfl rfl ?_
      refine VO.k14 0 1 2 7 10 12 18 19 20 21 25 26 27 28 ?_
      refine VC.rs ?_
      refine VO.y rfl (.fa rfl tst32 rfl) ?_
      refine VO.y rfl (.ld1 110 rfl tk3 rfl (cellsAt_one rfl rfl)) ?_
      refine VO.mv ?_
      refine VO.y rfl (.eql rfl rfl) ?_
      refine VO.mv ?_
      refine VO.dec (t := 35) rfl (fun hc11 => ?_) (fun hc11 => ?_)
      · -- TTT
        refine VO.gy rfl ⟨_, rfl, rfl⟩ (.fa rfl tst32 rfl) ?_
        refine VO.gy rfl ⟨_, rfl, rfl⟩ (.ld1 110 rfl tk3 rfl (cellsAt_one rfl rfl)) ?_
        refine VO.gy rfl ⟨_, rfl, rfl⟩ (.mv rfl) ?_
        refine VO.gy rfl ⟨_, rfl, rfl⟩ (.eql rfl rfl) ?_
        refine VO.y rfl (.pT rfl rfl) ?_
        refine VO.kp [110, 106, 101, 0] [(110, mone g9 (.cells [Value.int .i64 (x8.1), Value.int .i64 (x8.2.1), Value.slice q8_A2 (x8.2.2.length) (q8_c2)].toArray 32 (0, 0))), (106, mone g5 (.cells [Value.int .i64 (x4.1), Value.int .i64 (x4.2.1), Value.slice (some ⟨gg8, oo8, none⟩) (x4.2.2.length) (q4_c2)].toArray 24 (0, 0))), (101, m1), (0, wm W)] ?_
        refine VO.k15 0 1 2 7 10 12 18 19 20 21 25 26 27 28 40 ?_
        refine VC.cond rfl (fun hc12 => ?_) (fun hc12 => ?_)
        · -- TTTT
          refine VC.rs ?_
          refine VO.as ?_
          refine VO.k16 0 1 2 6 7 10 12 18 19 20 21 25 26 27 28 40 ?_
          refine VC.ret ?_
          refine outBR ?_
          refine outR ?_
          refine outR ?_
          refine outBR ?_
          refine outBR ?_
          refine outR ?_
          refine outR ?_
          refine outBR ?_
          refine outR ?_
          refine ⟨_, _, res_run (rs := [.tmp 6]) rfl (.tmp rfl .nil), fun W_ hI => out_of (l := []) hI [] rfl rfl (mle_refl _) (fun hS_ => ?_)⟩
          dsimp only [packV]
          all_goals (first | rfl | (first | exact congrArg Value.bool (has_end ha (by omega)).symm | exact congrArg Value.bool (has_yes ‹(scanF d0).1[k]? = some _› ‹_[j]? = some _› (by omega) (by omega)).symm))
        · -- TTTF
          refine VC.skip ?_
          refine outBN ?_
          refine outN ?_
          refine VC.reg ?_
          refine VO.y rfl (.add (c := ((j + 1 : Nat) : Int)) rfl rfl (by omega) ⟨bd, bd⟩) ?_
          refine VO.mv ?_
          refine VO.k15 0 1 2 7 10 12 18 19 20 21 25 26 27 28 40 ?_
          exact outN ⟨j + 1, ⟨by omega, by exact any_next hb ‹_[j]? = some _› (decide_eq_false (by omega))⟩, bd, ⟨⟨rfl, rfl, rfl, rfl, rfl, rfl, rfl, rfl, rfl, rfl, rfl, rfl, trivial⟩, fun _ h => Inv.sub h [106, 101, 0]⟩⟩
      · -- TTF
        refine VO.gN ?_
        refine VO.gN ?_
        refine VO.gN ?_
        refine VO.gN ?_
        refine VO.y rfl (.pF rfl rfl) ?_
        refine VO.kp [110, 106, 101, 0] [(110, mone g9 (.cells [Value.int .i64 (x8.1), Value.int .i64 (x8.2.1), Value.slice q8_A2 (x8.2.2.length) (q8_c2)].toArray 32 (0, 0))), (106, mone g5 (.cells [Value.int .i64 (x4.1), Value.int .i64 (x4.2.1), Value.slice (some ⟨gg8, oo8, none⟩) (x4.2.2.length) (q4_c2)].toArray 24 (0, 0))), (101, m1), (0, wm W)] ?_
        refine VO.k15 0 1 2 7 10 12 18 19 20 21 25 26 27 28 40 ?_
        refine VC.condF rfl ?_
        refine VC.skip ?_
        refine outBN ?_
        refine outN ?_
        refine VC.reg ?_
        refine VO.y rfl (.add (c := ((j + 1 : Nat) : Int)) rfl rfl (by omega) ⟨bd, bd⟩) ?_
        refine VO.mv ?_
        refine VO.k15 0 1 2 7 10 12 18 19 20 21 25 26 27 28 40 ?_
        exact outN ⟨j + 1, ⟨by omega, by exact any_next hb ‹_[j]? = some _› (decide_eq_false (by omega))⟩, bd, ⟨⟨rfl, rfl, rfl, rfl, rfl, rfl, rfl, rfl, rfl, rfl, rfl, rfl, trivial⟩, fun _ h => Inv.sub h [106, 101, 0]⟩⟩
    · -- TF
      refine VC.exit ?_
      refine outE ?_
      refine outE ?_
      refine outBB ?_
      refine outBN ?_
      refine outN ?_
      refine VC.reg ?_
      refine VO.y rfl (.add (c := ((k + 1 : Nat) : Int)) rfl rfl (by omega) ⟨bd, bd⟩) ?_
      refine VO.mv ?_
      refine VO.k13 0 1 2 7 10 18 19 20 21 25 26 27 28 ?_
      exact outN ⟨k + 1, ⟨by omega, by exact any_next ha ‹(scanF d0).1[k]? = some _› (any_end hb (by omega))⟩, bd, ⟨⟨rfl, rfl, rfl, rfl, rfl, rfl, rfl, trivial⟩, fun _ h => Inv.sub h [101, 0]⟩⟩
  · -- F
    refine VC.exit ?_
    refine outE ?_
    refine outE ?_
    refine outBB ?_
    refine outN ?_
    refine VC.rs ?_
    refine VO.as ?_
    refine VO.k9 0 1 2 6 7 18 19 20 21 ?_
    refine VC.ret ?_
    refine ⟨_, _, res_run (rs := [.tmp 6]) rfl (.tmp rfl .nil), fun W_ hI => out_of (l := []) hI [] rfl rfl (mle_refl _) (fun hS_ => ?_)⟩
    dsimp only [packV]
    all_goals (first | rfl | (first | exact congrArg Value.bool (has_end ha (by omega)).symm | exact congrArg Value.bool (has_yes ‹(scanF d0).1[k]? = some _› ‹_[j]? = some _› (by omega) (by omega)).symm))
theorem fin0_s19Has_ok {P : Prop} (h : P := by first | omega | (simp only [List.length_append, List.length_nil, List.length_cons, List.length_take, List.length_drop] at *; omega) | (have h_ := hb _ ‹(scanF d0).1[k]? = some _›; omega)) : P := h
theorem s19Has_ok (W : World) {v0 : Value} {d0 : List UInt8} (h0 : Rd (.sl .byte) (wm W) [v0] d0) (d1 : Int) (h1 : inK .i64 d1) (d2 : Int) (h2 : inK .i64 d2) (e0 : d0.length ≤ 1000000000000) : CallR Try.prog 23 [v0, .int .i64 d1, .int .i64 d2] W (mnil) (fun v m' => v = .bool (hasS (scanF d0).1 d1 d2)) := by
  obtain ⟨A0, c0, rfl, l0, k0⟩ := h0.slice
  simp only [maxLen] at k0
  have h1' := h1; simp only [inK] at h1'
  have h2' := h2; simp only [inK] at h2'
  refine CallR.ofA (n := 56) Try.func23 rfl rfl rfl ?_
  refine VC.rs ?_
  refine VO.as ?_
  refine VO.k4 0 1 2 6 ?_
  refine VC.rs ?_
  refine VO.mv ?_
  refine VO.callN 101 rfl fnOk19 rfl (fun W hW => s19Scan_ok W (Rd.mono h0 (hW.at (i := 0) rfl)) (by exact fin0_s19Has_ok)) (fun v1 m1 hv1 => ?_)
  obtain ⟨s1_0, rfl, f1_0⟩ := hv1
  have hfa2 := scanF_bounds d0
  obtain ⟨A1_0, c1_0, eq1_0, l1_0, k1_0⟩ := f1_0.slice
  subst eq1_0
  simp only [maxLen] at k1_0
  refine VO.mv ?_
  refine VO.y rfl (.ext rfl rfl) ?_
  refine VO.y rfl (.ext rfl rfl) ?_
  refine VO.as ?_
  refine VO.as ?_
  refine VO.k5 0 1 2 6 7 ?_
  refine VC.seq ?_
  refine VC.rs ?_
  refine VO.as ?_
  refine VO.kp [101, 0] [(101, m1), (0, wm W)] ?_
  refine VO.k6 0 1 2 6 7 9 ?_
  refine VC.block ?_
  refine VC.loop (G := Nat) (fun k => [(9, Value.int .i64 (((k : Nat) : Int))), (0, Value.slice A0 (d0.length) (c0)), (1, Value.int .i64 (d1)), (2, Value.int .i64 (d2)), (7, Value.slice A1_0 (((scanF d0).1).length) (c1_0))]) (fun k => [(101, m1), (0, wm W)]) (fun k => (k ≤ (scanF d0).1.length) ∧ (((scanF d0).1.take k).any (fun s => s.2.2.any fun c => decide (c.1 = d1 ∧ c.2.1 = d2)) = false)) (fun k => (scanF d0).1.length - k) 0 (⟨by first | omega | (dsimp only; omega), by rfl⟩) ⟨⟨rfl, rfl, rfl, rfl, rfl, trivial⟩, fun _ h => h.sub [101, 0]⟩ ?_
  rintro k ⟨hk, ha⟩
  refine VC.seq ?_
  refine VC.rs ?_
  refine VO.mv ?_
  refine VO.mv ?_
  refine VO.y rfl (.lenS rfl tsl41) ?_
  refine VO.y rfl (.lss rfl rfl) ?_
  refine VO.k6 0 1 2 7 9 19 ?_
  refine VC.cond rfl (fun hc3 => ?_) (fun hc3 => ?_)
  · -- T
    refine VC.skip ?_
    refine outN ?_
    refine VC.seq ?_
    refine VC.block ?_
    refine VC.rs ?_
    refine VO.as ?_
    refine VO.k7 0 1 2 7 9 10 19 ?_
    refine VC.block ?_
    refine VC.loop (G := Nat) (fun j => [(10, Value.int .i64 (((j : Nat) : Int))), (0, Value.slice A0 (d0.length) (c0)), (1, Value.int .i64 (d1)), (2, Value.int .i64 (d2)), (7, Value.slice A1_0 (((scanF d0).1).length) (c1_0)), (9, Value.int .i64 (((k : Nat) : Int))), (19, Value.bool (decide (((k : Nat) : Int) < ((((scanF d0).1).length : Nat) : Int))))]) (fun j => [(101, m1), (0, wm W)]) (fun j => (∀ x, (scanF d0).1[k]? = some x → j ≤ x.2.2.length ∧ (x.2.2.take j).any (fun c => decide (c.1 = d1 ∧ c.2.1 = d2)) = false)) (fun j => (((scanF d0).1[k]?.map fun s => s.2.2.length).getD 0) - j) 0 (by exact fun x _ => ⟨Nat.zero_le _, rfl⟩) ⟨⟨rfl, rfl, rfl, rfl, rfl, rfl, rfl, trivial⟩, fun _ h => h.sub [101, 0]⟩ ?_
    rintro j hb
    refine VC.seq ?_
    refine VC.rs ?_
    refine VO.mv ?_
    refine VO.mv ?_
    refine VO.mv ?_
    obtain ⟨x4, hx4⟩ : ∃ z_, ((scanF d0).1)[k]? = some z_ := ⟨_, List.getElem?_eq_getElem (by exact fin0_s19Has_ok)⟩
    obtain ⟨gg4, oo4, ec4, ea4, hce4, hre4⟩ := (Ow.rd f1_0 (mle_refl _)).elem hx4
    cases ea4
    obtain ⟨q4_A2, q4_c2, rfl, q4_0, q4_1, q4_2⟩ := open_Section (x0 := x4.1) (x1 := x4.2.1) (x2 := x4.2.2) hre4
    simp only [inK] at q4_0
    simp only [inK] at q4_1
    have q4_r2 := Rd.room q4_2
    refine VO.y rfl (.ixI k rfl rfl tsl41 rfl (by exact fin0_s19Has_ok)) ?_
    refine VO.y rfl (.fa rfl tst24 rfl) ?_
    refine VO.y rfl (.ld1 101 rfl tk22 rfl (hce4.at1 (j := 2) rfl)) ?_
    refine VO.y rfl (.lenS rfl tsl22) ?_
    refine VO.y rfl (.lss rfl rfl) ?_
    refine VO.kp [101, 0] [(101, m1), (0, wm W)] ?_
    refine VO.k8 0 1 2 7 9 10 19 29 ?_
    refine VC.cond rfl (fun hc5 => ?_) (fun hc5 => ?_)
    · -- TT
      refine VC.skip ?_
      refine outN ?_
      refine VC.seq ?_
      refine VC.block ?_
      refine VC.rs ?_
      refine VO.mv ?_
      refine VO.mv ?_
      refine VO.y rfl (.ixI k rfl rfl tsl41 rfl (by exact fin0_s19Has_ok)) ?_
      refine VO.y rfl (.fa rfl tst24 rfl) ?_
      refine VO.y rfl (.ld1 101 rfl tk22 rfl (hce4.at1 (j := 2) rfl)) ?_
      refine VO.mv ?_
      obtain ⟨x7, hx7⟩ : ∃ z_, (x4.2.2)[j]? = some z_ := ⟨_, List.getElem?_eq_getElem (by exact fin0_s19Has_ok)⟩
      obtain ⟨gg7, oo7, ec7, ea7, hce7, hre7⟩ := q4_2.elem hx7
      cases ea7
      obtain ⟨q7_A2, q7_c2, rfl, q7_0, q7_1, q7_2⟩ := open_Commit (x0 := x7.1) (x1 := x7.2.1) (x2 := x7.2.2) hre7
      simp only [inK] at q7_0
      simp only [inK] at q7_1
      have q7_r2 := Rd.room q7_2
      refine VO.y rfl (.ixI j rfl rfl tsl22 rfl (by exact fin0_s19Has_ok)) ?_
      refine VO.y rfl (.fa rfl tst32 rfl) ?_
      refine VO.y rfl (.ld1 101 rfl tk3 rfl (hce7.at1 (j := 0) rfl)) ?_
      refine VO.mv ?_
      refine VO.y rfl (.eql rfl rfl) ?_
      refine VO.mv ?_
      refine VO.dec (t := 43) rfl (fun hc8 => ?_) (fun hc8 => ?_)
      · -- TTT
        refine VO.gy rfl ⟨_, rfl, rfl⟩ (.mv rfl) ?_
        refine VO.gy rfl ⟨_, rfl, rfl⟩ (.mv rfl) ?_
        refine VO.gy rfl ⟨_, rfl, rfl⟩ (.ixI k rfl rfl tsl41 rfl (by exact fin0_s19Has_ok)) ?_
        refine VO.gy rfl ⟨_, rfl, rfl⟩ (.fa rfl tst24 rfl) ?_
        refine VO.gy rfl ⟨_, rfl, rfl⟩ (.ld1 101 rfl tk22 rfl (hce4.at1 (j := 2) rfl)) ?_
        refine VO.gy rfl ⟨_, rfl, rfl⟩ (.mv rfl) ?_
        refine VO.gy rfl ⟨_, rfl, rfl⟩ (.ixI j rfl rfl tsl22 rfl (by exact fin0_s19Has_ok)) ?_
        refine VO.gy rfl ⟨_, rfl, rfl⟩ (.fa rfl tst32 rfl) ?_
        refine VO.gy rfl ⟨_, rfl, rfl⟩ (.ld1 101 rfl tk3 rfl (hce7.at1 (j := 1) rfl)) ?_
        refine VO.gy rfl ⟨_, rfl, rfl⟩ (.mv rfl) ?_
        refine VO.gy rfl ⟨_, rfl, rfl⟩ (.eql rfl rfl) ?_
        refine VO.y rfl (.pT rfl rfl) ?_
        refine VO.k9 0 1 2 7 9 10 19 29 55 ?_
        refine VC.cond rfl (fun hc11 => ?_) (fun hc11 => ?_)
        · -- TTTT
          refine VC.rs ?_
          refine VO.as ?_
          refine VO.k10 0 1 2 6 7 9 10 19 29 55 ?_
          refine VC.ret ?_
          refine outBR ?_
          refine outR ?_
          refine outR ?_
          refine outBR ?_
          refine outBR ?_
          refine outR ?_
          refine outR ?_
          refine outBR ?_
          refine outR ?_
          refine ⟨_, _, res_run (rs := [.tmp 6]) rfl (.tmp rfl .nil), fun W_ hI => out_of (l := []) hI [] rfl rfl (mle_refl _) (fun hS_ => ?_)⟩
          dsimp only [packV]
          all_goals (first | rfl | (first | exact congrArg Value.bool (has_end ha (by omega)).symm | exact congrArg Value.bool (has_yes ‹(scanF d0).1[k]? = some _› ‹_[j]? = some _› (by omega) (by omega)).symm))
        · -- TTTF
          refine VC.skip ?_
          refine outBN ?_
          refine outN ?_
          refine VC.reg ?_
          refine VO.mv ?_
          refine VO.y rfl (.add (c := ((j + 1 : Nat) : Int)) rfl rfl (by omega) ⟨by exact fin0_s19Has_ok, by exact fin0_s19Has_ok⟩) ?_
          refine VO.as ?_
          refine VO.k9 0 1 2 7 9 10 19 29 55 ?_
          exact outN ⟨j + 1, by (have hxx := ‹(scanF d0).1[k]? = some _›; intro x_ hx_; rw [hxx] at hx_; cases hx_; have h_ := hb _ hxx; refine ⟨by omega, any_next h_.2 (by assumption) ?_⟩; exact decide_eq_false (by omega)), by (have h_ := hb _ ‹(scanF d0).1[k]? = some _›; have e_ := len_at ‹(scanF d0).1[k]? = some _›; rw [e_]; omega), ⟨⟨rfl, rfl, rfl, rfl, rfl, rfl, rfl, trivial⟩, fun _ h => Inv.sub h [101, 0]⟩⟩
      · -- TTF
        refine VO.gN ?_
        refine VO.gN ?_
        refine VO.gN ?_
        refine VO.gN ?_
        refine VO.gN ?_
        refine VO.gN ?_
        refine VO.gN ?_
        refine VO.gN ?_
        refine VO.gN ?_
        refine VO.gN ?_
        refine VO.gN ?_
        refine VO.y rfl (.pF rfl rfl) ?_
        refine VO.k9 0 1 2 7 9 10 19 29 55 ?_
        refine VC.condF rfl ?_
        refine VC.skip ?_
        refine outBN ?_
        refine outN ?_
        refine VC.reg ?_
        refine VO.mv ?_
        refine VO.y rfl (.add (c := ((j + 1 : Nat) : Int)) rfl rfl (by omega) ⟨by exact fin0_s19Has_ok, by exact fin0_s19Has_ok⟩) ?_
        refine VO.as ?_
        refine VO.k9 0 1 2 7 9 10 19 29 55 ?_
        exact outN ⟨j + 1, by (have hxx := ‹(scanF d0).1[k]? = some _›; intro x_ hx_; rw [hxx] at hx_; cases hx_; have h_ := hb _ hxx; refine ⟨by omega, any_next h_.2 (by assumption) ?_⟩; exact decide_eq_false (by omega)), by (have h_ := hb _ ‹(scanF d0).1[k]? = some _›; have e_ := len_at ‹(scanF d0).1[k]? = some _›; rw [e_]; omega), ⟨⟨rfl, rfl, rfl, rfl, rfl, rfl, rfl, trivial⟩, fun _ h => Inv.sub h [101, 0]⟩⟩
    · -- TF
      refine VC.exit ?_
      refine outE ?_
      refine outE ?_
      refine outBB ?_
      refine outBN ?_
      refine outN ?_
      refine VC.reg ?_
      refine VO.mv ?_
      refine VO.y rfl (.add (c := ((k + 1 : Nat) : Int)) rfl rfl (by omega) ⟨by exact fin0_s19Has_ok, by exact fin0_s19Has_ok⟩) ?_
      refine VO.as ?_
      refine VO.k8 0 1 2 7 9 10 19 29 ?_
      exact outN ⟨k + 1, ⟨by omega, by exact any_next ha ‹(scanF d0).1[k]? = some _› (any_end (hb _ ‹(scanF d0).1[k]? = some _›).2 (by omega))⟩, by exact fin0_s19Has_ok, ⟨⟨rfl, rfl, rfl, rfl, rfl, trivial⟩, fun _ h => Inv.sub h [101, 0]⟩⟩
  · -- F
    refine VC.exit ?_
    refine outE ?_
    refine outE ?_
    refine outBB ?_
    refine outN ?_
    refine VC.rs ?_
    refine VO.as ?_
    refine VO.k7 0 1 2 6 7 9 19 ?_
    refine VC.ret ?_
    refine ⟨_, _, res_run (rs := [.tmp 6]) rfl (.tmp rfl .nil), fun W_ hI => out_of (l := []) hI [] rfl rfl (mle_refl _) (fun hS_ => ?_)⟩
    dsimp only [packV]
    all_goals (first | rfl | (first | exact congrArg Value.bool (has_end ha (by omega)).symm | exact congrArg Value.bool (has_yes ‹(scanF d0).1[k]? = some _› ‹_[j]? = some _› (by omega) (by omega)).symm))
end
section
set_option linter.unusedVariables false
def exS : DSection := (2, 1, [ofC 1 2])
def exSB : Bytes := [3, 2, 1, 1, 9, 1, 2, 1, 1, 0, 1, 97, 1, 49]
theorem exS_enc : sectEnc exS = exSB := by
  simp [sectEnc, sectHead, fEnc, cFrames, cFrame, cEnc, exS, ofC, exSB, batchEnc, encOps, encOp, shared, venc_last]
theorem ex19E : sectEncode exS = (exSB, 0) := by rw [sectEncode_good (by decide), exS_enc]
theorem ex19S (r : Bytes) (h : (secRead r).2.2 = false) : scanF (exSB ++ r) = ([exS], 14) := by
  have h1 := scan_whole (l := [exS]) (r := r) ⟨by decide, by decide, trivial⟩ h
  have e : sectEncs [exS] = exSB := by simp [sectEncs, exS_enc]
  rw [e] at h1
  rw [h1]; rfl
theorem ex19D : scanF (exSB ++ [3, 3, 1, 1]) = ([exS], 14) := ex19S _ (by decide)
theorem ex19F : scanF exSB = ([exS], 14) := by
  have := ex19S [] sec_nil
  rwa [List.append_nil] at this
theorem ex19H : hasS (scanF exSB).1 1 2 = true ∧ hasS (scanF exSB).1 2 2 = false := by rw [ex19F]; decide
theorem small_room {s : DSection} (h : ¬ ¬ smallS s) : s.2.2.length ≤ 40 ∧ (∀ c ∈ s.2.2, c.2.2.length ≤ 3518437208800) ∧ (sectEncode s).1.length ≤ 28440 := by
  have h := Decidable.not_not.1 h
  have h2 := h.2
  have h3 := (sectEncode_len s).2
  exact ⟨h2, fun c hc => by have := h.1 c hc; omega, by omega⟩
end
section
set_option linter.unusedVariables false
set_option linter.unusedSimpArgs false
set_option maxRecDepth 4000
theorem fnOk10 : fnOk Try.prog 10 = true := by kernel_rfl
theorem fnOk11 : fnOk Try.prog 11 = true := by kernel_rfl
theorem fnOk12 : fnOk Try.prog 12 = true := by kernel_rfl
theorem fnOk22 : fnOk Try.prog 22 = true := by kernel_rfl
theorem fnOk8 : fnOk Try.prog 8 = true := by kernel_rfl
theorem small19_ok (W : World) {v0 : List Value} {d0 : DSection} (h0 : Rd TSection (wm W) v0 d0) : CallR Try.prog 13 [.agg v0.toArray] W (mnil) (fun v m' => v = .bool (decide (smallS d0))) := by
  obtain ⟨p0_A2, p0_c2, rfl, p0_0, p0_1, p0_2⟩ := open_Section (x0 := d0.1) (x1 := d0.2.1) (x2 := d0.2.2) h0
  simp only [inK] at p0_0
  simp only [inK] at p0_1
  have p0_r2 := Rd.room p0_2
  refine CallR.ofA (n := 23) Try.func13 rfl rfl rfl ?_
  refine VC.rs ?_
  refine VO.box (cs := [Value.int .i64 (d0.1), Value.int .i64 (d0.2.1), Value.slice p0_A2 (d0.2.2.length) (p0_c2)]) 102 rfl rfl rfl (fun g1 => ?_)
  refine VO.as ?_
  refine VO.k3 0 1 2 ?_
  refine VC.seq ?_
  refine VC.rs ?_
  refine VO.as ?_
  refine VO.k4 0 1 2 3 ?_
  refine VC.block ?_
  refine VC.loop (G := Nat) (fun k => [(3, Value.int .i64 (((k : Nat) : Int))), (0, Value.agg [Value.int .i64 (d0.1), Value.int .i64 (d0.2.1), Value.slice p0_A2 (d0.2.2.length) (p0_c2)].toArray), (1, Value.pointer (some ⟨g1, 0, none⟩))]) (fun k => [(102, mone g1 (.cells [Value.int .i64 (d0.1), Value.int .i64 (d0.2.1), Value.slice p0_A2 (d0.2.2.length) (p0_c2)].toArray 24 (0, 0))), (0, wm W)]) (fun k => (k ≤ d0.2.2.length) ∧ (∀ c ∈ d0.2.2.take k, c.2.2.length ≤ 40)) (fun k => d0.2.2.length - k) 0 (⟨by omega, by simp⟩) ⟨⟨rfl, rfl, rfl, trivial⟩, fun _ h => h.sub [102, 0]⟩ ?_
  rintro k ⟨hk, ha⟩
  refine VC.seq ?_
  refine VC.rs ?_
  refine VO.mv ?_
  refine VO.y rfl (.fa rfl tst24 rfl) ?_
  refine VO.y rfl (.ld1 102 rfl tk22 rfl (cellsAt_one rfl rfl)) ?_
  refine VO.y rfl (.lenS rfl tsl22) ?_
  refine VO.y rfl (.lss rfl rfl) ?_
  refine VO.kp [102, 0] [(102, mone g1 (.cells [Value.int .i64 (d0.1), Value.int .i64 (d0.2.1), Value.slice p0_A2 (d0.2.2.length) (p0_c2)].toArray 24 (0, 0))), (0, wm W)] ?_
  refine VO.k4 0 1 3 8 ?_
  refine VC.cond rfl (fun hc3 => ?_) (fun hc3 => ?_)
  · -- T
    refine VC.skip ?_
    refine outN ?_
    refine VC.seq ?_
    refine VC.block ?_
    refine VC.rs ?_
    refine VO.y rfl (.fa rfl tst24 rfl) ?_
    refine VO.y rfl (.ld1 102 rfl tk22 rfl (cellsAt_one rfl rfl)) ?_
    refine VO.mv ?_
    obtain ⟨x4, hx4⟩ : ∃ z_, (d0.2.2)[k]? = some z_ := ⟨_, List.getElem?_eq_getElem bd⟩
    obtain ⟨gg4, oo4, ec4, ea4, hce4, hre4⟩ := p0_2.elem hx4
    cases ea4
    obtain ⟨q4_A2, q4_c2, rfl, q4_0, q4_1, q4_2⟩ := open_Commit (x0 := x4.1) (x1 := x4.2.1) (x2 := x4.2.2) hre4
    simp only [inK] at q4_0
    simp only [inK] at q4_1
    have q4_r2 := Rd.room q4_2
    refine VO.y rfl (.ixI k rfl rfl tsl22 rfl bd) ?_
    refine VO.y rfl (.fa rfl tst32 rfl) ?_
    refine VO.y rfl (.ld1 0 rfl tk30 rfl (hce4.at1 (j := 2) rfl)) ?_
    refine VO.y rfl (.lenS rfl tsl30) ?_
    refine VO.y rfl (.gtr rfl rfl) ?_
    refine VO.k5 0 1 3 8 18 ?_
    refine VC.cond rfl (fun hc5 => ?_) (fun hc5 => ?_)
    · -- TT
      refine VC.rs ?_
      refine VO.as ?_
      refine VO.k6 0 1 2 3 8 18 ?_
      refine VC.ret ?_
      refine outBR ?_
      refine outR ?_
      refine outR ?_
      refine outBR ?_
      refine outR ?_
      refine ⟨_, _, res_run (rs := [.tmp 2]) rfl (.tmp rfl .nil), fun W_ hI => out_of (l := []) hI [] rfl rfl (mle_refl _) (fun hS_ => ?_)⟩
      dsimp only [packV]
      all_goals (first | rfl | (first | exact congrArg Value.bool (decide_eq_false (fun e => by have := e.1 _ (List.mem_of_getElem? ‹d0.2.2[k]? = some _›); omega)).symm | exact congrArg Value.bool (decide_eq_false (fun e => by have := e.2; omega)).symm | exact congrArg Value.bool (decide_eq_decide.2 (by have ha2 := ha; rw [List.take_of_length_le (by omega)] at ha2; exact ⟨fun h => ⟨ha2, by omega⟩, fun h => by have := h.2; omega⟩))))
    · -- TF
      refine VC.skip ?_
      refine outBN ?_
      refine outN ?_
      refine VC.reg ?_
      refine VO.mv ?_
      refine VO.y rfl (.add (c := ((k + 1 : Nat) : Int)) rfl rfl (by omega) ⟨bd, bd⟩) ?_
      refine VO.as ?_
      refine VO.k5 0 1 3 8 18 ?_
      exact outN ⟨k + 1, ⟨by omega, by exact all_next ha ‹d0.2.2[k]? = some _› (by omega)⟩, bd, ⟨⟨rfl, rfl, rfl, trivial⟩, fun _ h => Inv.sub h [102, 0]⟩⟩
  · -- F
    refine VC.exit ?_
    refine outE ?_
    refine outE ?_
    refine outBB ?_
    refine outN ?_
    refine VC.rs ?_
    refine VO.y rfl (.fa rfl tst24 rfl) ?_
    refine VO.y rfl (.ld1 102 rfl tk22 rfl (cellsAt_one rfl rfl)) ?_
    refine VO.y rfl (.lenS rfl tsl22) ?_
    refine VO.y rfl (.leq rfl rfl) ?_
    refine VO.as ?_
    refine VO.k5 0 1 2 3 8 ?_
    refine VC.ret ?_
    refine ⟨_, _, res_run (rs := [.tmp 2]) rfl (.tmp rfl .nil), fun W_ hI => out_of (l := []) hI [] rfl rfl (mle_refl _) (fun hS_ => ?_)⟩
    dsimp only [packV]
    all_goals (first | rfl | (first | exact congrArg Value.bool (decide_eq_false (fun e => by have := e.1 _ (List.mem_of_getElem? ‹d0.2.2[k]? = some _›); omega)).symm | exact congrArg Value.bool (decide_eq_false (fun e => by have := e.2; omega)).symm | exact congrArg Value.bool (decide_eq_decide.2 (by have ha2 := ha; rw [List.take_of_length_le (by omega)] at ha2; exact ⟨fun h => ⟨ha2, by omega⟩, fun h => by have := h.2; omega⟩))))
theorem put19_ok (W : World) (d0 : Int) (h0 : inK .i64 d0) (d1 : Int) (h1 : inK .i64 d1) : CallR Try.prog 10 [.int .i64 d0, .int .i64 d1] W (mnil) (fun v m' => ∃ (s0 : List Value), v = .agg s0.toArray ∧ Ow TCommit m' s0 (ofC d0 d1)) := by
  have h0' := h0; simp only [inK] at h0'
  have h1' := h1; simp only [inK] at h1'
  refine CallR.ofA (n := 10) Try.func10 rfl rfl rfl ?_
  refine VC.rs ?_
  refine VO.alloc 102 rfl tz32 (fun g1 => ?_)
  refine VO.k3 0 1 4 ?_
  refine VC.rs ?_
  refine VO.mv ?_
  refine VO.mv ?_
  refine VO.y rfl (.bst (cs := [Value.bool true, str ([97]), str ([49])]) rfl tst78 tz78 rfl) ?_
  refine VO.bsl (cs := [Value.bool true, str ([97]), str ([49])]) 104 rfl rfl tsl30 tz78 rfl rfl (fun g3 => ?_)
  refine VO.y rfl (.bst (cs := [Value.int .i64 (d0), Value.int .i64 (d1), Value.slice (some ⟨g3, 0, none⟩) (1) (1)]) rfl tst32 tz32 rfl) ?_
  refine VO.store (k := 3) (c' := [Value.int .i64 (d0), Value.int .i64 (d1), Value.slice (some ⟨g3, 0, none⟩) (1) (1)]) 102 rfl rfl (.inl tk32) rfl rfl rfl rfl rfl ?_
  refine VO.k3 0 1 4 ?_
  refine VC.ret ?_
  have ho5 : OwnL TOp (mone g3 (.cells [Value.bool true, str ([97]), str ([49])].toArray 78 (0, 0))) mnil (Value.slice (some ⟨g3, 0, none⟩) (1) (1)) [(true, [97], [49])] := OwnL.lit 1 (All2c.cons (c1 := [Value.bool true, str ([97]), str ([49])]) (mk_Op (m := _) true ([97]) ([49]) bdm bdm) All2c.nil) rfl rfl
  refine ⟨_, _, res_run (rs := [.cell 4 32]) rfl (.agg 102 rfl tk32 rfl ⟨_, _, _, mone_self _ _, Nat.le_of_ble_eq_true rfl, rfl⟩ .nil), fun W_ hI => out_of (l := [mone g3 (.cells [Value.bool true, str ([97]), str ([49])].toArray 78 (0, 0))]) hI [104] rfl rfl (mle_refl _) (fun hS_ => ?_)⟩
  dsimp only [packV]
  have he0 : (ofC d0 d1 : Ty.Den TCommit) = (d0, d1, [(true, [97], [49])]) := by first | rfl | (simp [*]; done)
  refine ⟨[Value.int .i64 (d0), Value.int .i64 (d1), Value.slice (some ⟨g3, 0, none⟩) (1) (1)], ?_, ?_⟩
  rotate_left
  · rw [he0]; exact (mkO_Commit d0 d1 ([(true, [97], [49])]) hS_ bdk bdk (OwnL.ow ho5 rfl))
  all_goals (first | rfl | (simp [*]; done))
theorem example19_ok (W : World) : CallR Try.prog 8 [] W (mnil) (fun v m' => ∃ (s0 : List Value), ∃ (s1 : Value), ∃ (p0 : Mem), ∃ (p1 : Mem), v = .tuple #[.agg s0.toArray, s1] ∧ Seps m' [p0, p1] ∧ Ow TSection p0 s0 (exS) ∧ Ow (.sl .byte) p1 [s1] (exSB)) := by
  refine CallR.ofA (n := 6) Try.func8 rfl rfl rfl ?_
  refine VC.rs ?_
  refine VO.alloc 102 rfl tz24 (fun g1 => ?_)
  refine VO.as ?_
  refine VO.k2 0 1 ?_
  refine VC.rs ?_
  refine VO.callN 103 rfl fnOk10 rfl (fun W hW => put19_ok W 1 bdk 2 bdk) (fun v3 m3 hv3 => ?_)
  obtain ⟨s3_0, rfl, f3_0⟩ := hv3
  obtain ⟨q3_0_A2, q3_0_c2, q3_0_n2, rfl, q3_0_S, q3_0_0, q3_0_1, q3_0_2⟩ := openO_Commit (x0 := (ofC 1 2).1) (x1 := (ofC 1 2).2.1) (x2 := (ofC 1 2).2.2) f3_0
  simp only [inK] at q3_0_0
  simp only [inK] at q3_0_1
  have q3_0_r2 := q3_0_2.rm
  refine VO.inv _ (fun _ h => h.parts (i := 103) rfl q3_0_S [104]) ?_
  refine VO.bsl (cs := [Value.int .i64 ((ofC 1 2).1), Value.int .i64 ((ofC 1 2).2.1), Value.slice q3_0_A2 (((ofC 1 2).2.2).length) (q3_0_c2)]) 106 rfl rfl tsl22 tz32 rfl rfl (fun g5 => ?_)
  refine VO.gather (l := [mone g5 (.cells [Value.int .i64 ((ofC 1 2).1), Value.int .i64 ((ofC 1 2).2.1), Value.slice q3_0_A2 (((ofC 1 2).2.2).length) (q3_0_c2)].toArray 32 (0, 0)), q3_0_n2]) 108 [106, 104] rfl (fun hg7 => ?_)
  have ho7 : Ow (.sl TCommit) (muns [mone g5 (.cells [Value.int .i64 ((ofC 1 2).1), Value.int .i64 ((ofC 1 2).2.1), Value.slice q3_0_A2 (((ofC 1 2).2.2).length) (q3_0_c2)].toArray 32 (0, 0)), q3_0_n2]) [Value.slice (some ⟨g5, 0, none⟩) (1) (1)] [(ofC 1 2)] := Ow.lit 1 (Seps.grp1 (ls := [[q3_0_n2]]) hg7) (OwAs.cons (m := muns [q3_0_n2]) (c1 := [Value.int .i64 ((ofC 1 2).1), Value.int .i64 ((ofC 1 2).2.1), Value.slice q3_0_A2 (((ofC 1 2).2.2).length) (q3_0_c2)]) (show Ow TCommit _ _ (ofC 1 2) from (mkO_Commit ((ofC 1 2).1) ((ofC 1 2).2.1) ((ofC 1 2).2.2) (Seps.self hg7 (List.Sublist.cons _ (List.Sublist.cons_cons _ List.Sublist.slnil))) bdk bdk (OwnL.ow (Ow.ownl q3_0_2 rfl mnil) rfl))) OwAs.nil) rfl rfl
  refine VO.y rfl (.bst (cs := [Value.int .i64 (2), Value.int .i64 (1), Value.slice (some ⟨g5, 0, none⟩) (1) (1)]) rfl tst24 tz24 rfl) ?_
  refine VO.bsl (cs := [Value.int .u8 (3), Value.int .u8 (2), Value.int .u8 (1), Value.int .u8 (1), Value.int .u8 (9), Value.int .u8 (1), Value.int .u8 (2), Value.int .u8 (1), Value.int .u8 (1), Value.int .u8 (0), Value.int .u8 (1), Value.int .u8 (97), Value.int .u8 (1), Value.int .u8 (49)]) 110 rfl rfl tsl25 tz5 rfl rfl (fun g9 => ?_)
  refine VO.store (k := 3) (c' := [Value.int .i64 (2), Value.int .i64 (1), Value.slice (some ⟨g5, 0, none⟩) (1) (1)]) 102 rfl rfl (.inl tk24) rfl rfl rfl rfl rfl ?_
  refine VO.as ?_
  refine VO.k2 0 1 ?_
  refine VC.ret ?_
  have ho11 : OwnL .byte (mone g9 (.cells [Value.int .u8 (3), Value.int .u8 (2), Value.int .u8 (1), Value.int .u8 (1), Value.int .u8 (9), Value.int .u8 (1), Value.int .u8 (2), Value.int .u8 (1), Value.int .u8 (1), Value.int .u8 (0), Value.int .u8 (1), Value.int .u8 (97), Value.int .u8 (1), Value.int .u8 (49)].toArray 5 (0, 0))) mnil (Value.slice (some ⟨g9, 0, none⟩) (14) (14)) [UInt8.ofNat 3, UInt8.ofNat 2, UInt8.ofNat 1, UInt8.ofNat 1, UInt8.ofNat 9, UInt8.ofNat 1, UInt8.ofNat 2, UInt8.ofNat 1, UInt8.ofNat 1, UInt8.ofNat 0, UInt8.ofNat 1, UInt8.ofNat 97, UInt8.ofNat 1, UInt8.ofNat 49] := OwnL.lit 14 (All2c.cons (c1 := [Value.int .u8 (3)]) (rd_byteN bd) (All2c.cons (c1 := [Value.int .u8 (2)]) (rd_byteN bd) (All2c.cons (c1 := [Value.int .u8 (1)]) (rd_byteN bd) (All2c.cons (c1 := [Value.int .u8 (1)]) (rd_byteN bd) (All2c.cons (c1 := [Value.int .u8 (9)]) (rd_byteN bd) (All2c.cons (c1 := [Value.int .u8 (1)]) (rd_byteN bd) (All2c.cons (c1 := [Value.int .u8 (2)]) (rd_byteN bd) (All2c.cons (c1 := [Value.int .u8 (1)]) (rd_byteN bd) (All2c.cons (c1 := [Value.int .u8 (1)]) (rd_byteN bd) (All2c.cons (c1 := [Value.int .u8 (0)]) (rd_byteN bd) (All2c.cons (c1 := [Value.int .u8 (1)]) (rd_byteN bd) (All2c.cons (c1 := [Value.int .u8 (97)]) (rd_byteN bd) (All2c.cons (c1 := [Value.int .u8 (1)]) (rd_byteN bd) (All2c.cons (c1 := [Value.int .u8 (49)]) (rd_byteN bd) All2c.nil)))))))))))))) rfl rfl
  refine ⟨_, _, res_run (rs := [.cell 0 24, .tmp 1]) rfl (.agg 102 rfl tk24 rfl ⟨_, _, _, mone_self _ _, Nat.le_of_ble_eq_true rfl, rfl⟩ (.tmp rfl .nil)), fun W_ hI => out_of (l := [muns [mone g5 (.cells [Value.int .i64 ((ofC 1 2).1), Value.int .i64 ((ofC 1 2).2.1), Value.slice q3_0_A2 (((ofC 1 2).2.2).length) (q3_0_c2)].toArray 32 (0, 0)), q3_0_n2], mone g9 (.cells [Value.int .u8 (3), Value.int .u8 (2), Value.int .u8 (1), Value.int .u8 (1), Value.int .u8 (9), Value.int .u8 (1), Value.int .u8 (2), Value.int .u8 (1), Value.int .u8 (1), Value.int .u8 (0), Value.int .u8 (1), Value.int .u8 (97), Value.int .u8 (1), Value.int .u8 (49)].toArray 5 (0, 0))]) hI [108, 110] rfl rfl (mle_refl _) (fun hS_ => ?_)⟩
  dsimp only [packV]
  have he0 : (exS : Ty.Den TSection) = (2, 1, [(ofC 1 2)]) := by first | rfl | (simp [*]; done)
  have he1 : (exSB : Ty.Den (.sl .byte)) = [UInt8.ofNat 3, UInt8.ofNat 2, UInt8.ofNat 1, UInt8.ofNat 1, UInt8.ofNat 9, UInt8.ofNat 1, UInt8.ofNat 2, UInt8.ofNat 1, UInt8.ofNat 1, UInt8.ofNat 0, UInt8.ofNat 1, UInt8.ofNat 97, UInt8.ofNat 1, UInt8.ofNat 49] := by first | rfl | (simp [*]; done)
  refine ⟨[Value.int .i64 (2), Value.int .i64 (1), Value.slice (some ⟨g5, 0, none⟩) (1) (1)], Value.slice (some ⟨g9, 0, none⟩) (14) (14), muns [muns [mone g5 (.cells [Value.int .i64 ((ofC 1 2).1), Value.int .i64 ((ofC 1 2).2.1), Value.slice q3_0_A2 (((ofC 1 2).2.2).length) (q3_0_c2)].toArray 32 (0, 0)), q3_0_n2]], muns [mone g9 (.cells [Value.int .u8 (3), Value.int .u8 (2), Value.int .u8 (1), Value.int .u8 (1), Value.int .u8 (9), Value.int .u8 (1), Value.int .u8 (2), Value.int .u8 (1), Value.int .u8 (1), Value.int .u8 (0), Value.int .u8 (1), Value.int .u8 (97), Value.int .u8 (1), Value.int .u8 (49)].toArray 5 (0, 0))], ?_, ?_, ?_, ?_⟩
  rotate_left
  · exact Seps.grp (ls := [[muns [mone g5 (.cells [Value.int .i64 ((ofC 1 2).1), Value.int .i64 ((ofC 1 2).2.1), Value.slice q3_0_A2 (((ofC 1 2).2.2).length) (q3_0_c2)].toArray 32 (0, 0)), q3_0_n2]], [mone g9 (.cells [Value.int .u8 (3), Value.int .u8 (2), Value.int .u8 (1), Value.int .u8 (1), Value.int .u8 (9), Value.int .u8 (1), Value.int .u8 (2), Value.int .u8 (1), Value.int .u8 (1), Value.int .u8 (0), Value.int .u8 (1), Value.int .u8 (97), Value.int .u8 (1), Value.int .u8 (49)].toArray 5 (0, 0))]]) hS_
  · rw [he0]; exact (mkO_Section 2 1 ([(ofC 1 2)]) (Seps.self hS_ (List.Sublist.cons_cons _ (List.Sublist.cons _ List.Sublist.slnil))) bdk bdk ho7)
  · rw [he1]; exact (Ow.up (OwnL.ow ho11 rfl) ((Seps.self hS_ (List.Sublist.cons _ (List.Sublist.cons_cons _ List.Sublist.slnil))).1 _ (.head _)))
  all_goals (first | rfl | (simp [*]; done))
theorem fin2_lives19_ok {P : Prop} (h : P := by first | omega | (simp only [List.length_append, List.length_nil, List.length_cons, List.length_take, List.length_drop] at *; omega) | (have : exC.length = 6 := rfl; omega) | decide | (have : exSB.length = 14 := rfl; omega)) : P := h
theorem lives19_ok (W : World) : CallR Try.prog 11 [] W (mnil) (fun v m' => v = .bool true) := by
  refine CallR.ofA (n := 41) Try.func11 rfl rfl rfl ?_
  refine VC.rs ?_
  refine VO.as ?_
  refine VO.k1 0 ?_
  refine VC.rs ?_
  refine VO.callN 101 rfl fnOk8 rfl (fun W hW => example19_ok W ) (fun v1 m1 hv1 => ?_)
  obtain ⟨s1_0, s1_1, p1_0, p1_1, rfl, hS1, f1_0, f1_1⟩ := hv1
  refine VO.inv _ (fun _ h => h.parts (i := 101) rfl hS1 [102, 103]) ?_
  obtain ⟨q1_0_A2, q1_0_c2, q1_0_n2, rfl, q1_0_S, q1_0_0, q1_0_1, q1_0_2⟩ := openO_Section (x0 := exS.1) (x1 := exS.2.1) (x2 := exS.2.2) f1_0
  simp only [inK] at q1_0_0
  simp only [inK] at q1_0_1
  have q1_0_r2 := q1_0_2.rm
  refine VO.inv _ (fun _ h => h.parts (i := 102) rfl q1_0_S [104]) ?_
  obtain ⟨A1_1, c1_1, eq1_1, l1_1, k1_1⟩ := f1_1.slice
  subst eq1_1
  simp only [maxLen] at k1_1
  refine VO.mv ?_
  refine VO.y rfl (.ext rfl rfl) ?_
  refine VO.y rfl (.ext rfl rfl) ?_
  refine VO.alloc 106 rfl tz24 (fun g5 => ?_)
  refine VO.store (k := 3) (c' := [Value.int .i64 (exS.1), Value.int .i64 (exS.2.1), Value.slice q1_0_A2 (exS.2.2.length) (q1_0_c2)]) 106 rfl rfl (.inl tk24) rfl rfl rfl rfl rfl ?_
  refine VO.as ?_
  refine VO.k3 0 1 2 ?_
  refine VC.rs ?_
  refine VO.y rfl (.ldA 106 rfl tk24 rfl (cellsAt_one rfl rfl)) ?_
  refine VO.callN 107 rfl fnOk16 rfl (fun W hW => sectEncode_ok W (show Rd TSection _ _ exS from (mk_Section (m := wm W) exS.1 exS.2.1 exS.2.2 (by simp only [inK]; (exact fin2_lives19_ok)) (by simp only [inK]; (exact fin2_lives19_ok)) (Ow.rd q1_0_2 (hW.at (i := 104) rfl))))) (fun v7 m7 hv7 => ?_)
  obtain ⟨s7_0, rfl, f7_0⟩ := hv7
  have hfa8 := sectEncode_len exS
  obtain ⟨A7_0, c7_0, eq7_0, l7_0, k7_0⟩ := f7_0.slice
  subst eq7_0
  simp only [maxLen] at k7_0
  refine VO.mv ?_
  refine VO.y rfl (.ext rfl rfl) ?_
  refine VO.y rfl (.ext rfl rfl) ?_
  refine VO.as ?_
  refine VO.as ?_
  refine VO.kp [107, 106, 104, 103, 0] [(107, m7), (106, mone g5 (.cells [Value.int .i64 (exS.1), Value.int .i64 (exS.2.1), Value.slice q1_0_A2 (exS.2.2.length) (q1_0_c2)].toArray 24 (0, 0))), (104, q1_0_n2), (103, p1_1), (0, wm W)] ?_
  refine VO.k5 0 1 2 3 4 ?_
  refine VC.rs ?_
  refine VO.mv ?_
  refine VO.bsl (cs := [Value.int .u8 (3), Value.int .u8 (3), Value.int .u8 (1), Value.int .u8 (1)]) 110 rfl rfl tsl25 tz5 rfl rfl (fun g9 => ?_)
  obtain ⟨mo11, cs11, hM11, hA11, hC11⟩ := (Ow.ownl f1_1 rfl mnil)
  refine VO.appK 103 rfl rfl rfl tsl25 tz5 rfl rfl hM11 hA11 (.row 110 _ _ _ 4 4 _ _ Try.underlying25 rfl (cellsAt_one rfl rfl)) (by simp [Value.oneCell']) (by simp only [maxLen]; (exact fin2_lives19_ok)) (by exact fin2_lives19_ok) (by decide) (fun v11 m11 mk11 hmk11 hN11 hK11 => ?_)
  have ho11 : OwnL .byte mk11 mnil v11 (exSB ++ [UInt8.ofNat 3, UInt8.ofNat 3, UInt8.ofNat 1, UInt8.ofNat 1]) := OwnL.more (ys := [UInt8.ofNat 3, UInt8.ofNat 3, UInt8.ofNat 1, UInt8.ofNat 1]) hC11 hN11 (All2c.cons (c1 := [Value.int .u8 (3)]) (rd_byteN (by exact fin2_lives19_ok)) (All2c.cons (c1 := [Value.int .u8 (3)]) (rd_byteN (by exact fin2_lives19_ok)) (All2c.cons (c1 := [Value.int .u8 (1)]) (rd_byteN (by exact fin2_lives19_ok)) (All2c.cons (c1 := [Value.int .u8 (1)]) (rd_byteN (by exact fin2_lives19_ok)) All2c.nil))))
  replace ho11 := OwnL.up ho11 hmk11
  have hkp11 : Rd (.sl .byte) (m11) [Value.slice A1_1 (exSB.length) (c1_1)] exSB := KeptA.rd hK11 (All2c.mono hC11 fun _ _ h => Rd.flat rfl h _)
  obtain ⟨A11, c11, rfl, l11, k11⟩ := ho11.slice
  simp only [maxLen] at k11
  refine VO.callN 112 rfl fnOk18 rfl (fun W hW => oScan_ok W (OwnL.rd ho11 (hW.at (i := 103) rfl) (mle_nil _)) (by exact fin2_lives19_ok)) (fun v12 m12 hv12 => ?_)
  obtain ⟨s12_0, rfl, f12_0⟩ := hv12
  have hfa13 := scanF_bounds (exSB ++ [UInt8.ofNat 3, UInt8.ofNat 3, UInt8.ofNat 1, UInt8.ofNat 1])
  obtain ⟨A12_0, c12_0, eq12_0, l12_0, k12_0⟩ := f12_0.slice
  subst eq12_0
  simp only [maxLen] at k12_0
  refine VO.mv ?_
  refine VO.y rfl (.ext rfl rfl) ?_
  refine VO.y rfl (.ext rfl rfl) ?_
  refine VO.as ?_
  refine VO.as ?_
  refine VO.k7 0 1 2 3 4 5 6 ?_
  refine VC.rs ?_
  refine VO.mv ?_
  refine VO.y rfl (.eql rfl rfl) ?_
  refine VO.mv ?_
  refine VO.dec (t := 25) rfl (fun hc14 => ?_) (fun hc14 => ?_)
  · -- T
    refine VO.gy rfl ⟨_, rfl, rfl⟩ (.mv rfl) ?_
    refine VO.gy rfl ⟨_, rfl, rfl⟩ (.mv rfl) ?_
    have hs15 := hkp11.pre (j := 14) (by exact fin2_lives19_ok)
    refine VO.gy rfl ⟨_, rfl, rfl⟩ (.slHI 14 rfl rfl tsl25 rfl (by exact fin2_lives19_ok)) ?_
    refine VO.gcallN 116 rfl ⟨_, rfl, rfl⟩ fnOk21 rfl (fun W hW => SameBytes_ok W (OwnL.rd (Ow.ownl f7_0 rfl mnil) (hW.at (i := 107) rfl) (mle_nil _)) (Rd.mono hs15 (hW.at (i := 103) rfl))) (fun v16 m16 hv16 => ?_)
    subst hv16
    refine VO.y rfl (.pT rfl rfl) ?_
    refine VO.mv ?_
    refine VO.dec (t := 31) rfl (fun hc17 => ?_) (fun hc17 => ?_)
    · -- TT
      refine VO.gy rfl ⟨_, rfl, rfl⟩ (.mv rfl) ?_
      refine VO.gy rfl ⟨_, rfl, rfl⟩ (.eql rfl rfl) ?_
      refine VO.y rfl (.pT rfl rfl) ?_
      refine VO.mv ?_
      refine VO.dec (t := 35) rfl (fun hc18 => ?_) (fun hc18 => ?_)
      · -- TTT
        refine VO.gy rfl ⟨_, rfl, rfl⟩ (.mv rfl) ?_
        refine VO.gy rfl ⟨_, rfl, rfl⟩ (.ldA 106 rfl tk24 rfl (cellsAt_one rfl rfl)) ?_
        refine VO.gbsl (cs := [Value.int .i64 (exS.1), Value.int .i64 (exS.2.1), Value.slice q1_0_A2 (exS.2.2.length) (q1_0_c2)]) 120 rfl ⟨_, rfl, rfl⟩ rfl tsl41 tz24 rfl rfl (fun g19 => ?_)
        refine VO.gather (l := [mone g19 (.cells [Value.int .i64 (exS.1), Value.int .i64 (exS.2.1), Value.slice q1_0_A2 (exS.2.2.length) (q1_0_c2)].toArray 24 (0, 0)), q1_0_n2]) 123 [120, 104] rfl (fun hg22 => ?_)
        have ho22 : Ow (.sl TSection) (muns [mone g19 (.cells [Value.int .i64 (exS.1), Value.int .i64 (exS.2.1), Value.slice q1_0_A2 (exS.2.2.length) (q1_0_c2)].toArray 24 (0, 0)), q1_0_n2]) [Value.slice (some ⟨g19, 0, none⟩) (1) (1)] [exS] := Ow.lit 1 (Seps.grp1 (ls := [[q1_0_n2]]) hg22) (OwAs.cons (m := muns [q1_0_n2]) (c1 := [Value.int .i64 (exS.1), Value.int .i64 (exS.2.1), Value.slice q1_0_A2 (exS.2.2.length) (q1_0_c2)]) (show Ow TSection _ _ exS from (mkO_Section exS.1 exS.2.1 exS.2.2 (Seps.self hg22 (List.Sublist.cons _ (List.Sublist.cons_cons _ List.Sublist.slnil))) (by simp only [inK]; (exact fin2_lives19_ok)) (by simp only [inK]; (exact fin2_lives19_ok)) q1_0_2)) OwAs.nil) rfl rfl
        refine VO.gcallN 121 rfl ⟨_, rfl, rfl⟩ fnOk22 rfl (fun W hW => SameSections_ok W (Ow.rd f12_0 (hW.at (i := 112) rfl)) (Ow.rd ho22 (hW.at (i := 123) rfl))) (fun v21 m21 hv21 => ?_)
        subst hv21
        refine VO.y rfl (.pT rfl rfl) ?_
        refine VO.as ?_
        refine VO.k7 0 1 2 3 4 5 6 ?_
        refine VC.ret ?_
        refine ⟨_, _, res_run (rs := [.tmp 0]) rfl (.tmp rfl .nil), fun W_ hI => out_of (l := []) hI [] rfl rfl (mle_refl _) (fun hS_ => ?_)⟩
        dsimp only [packV]
        all_goals (first | rfl | (first | exact congrArg Value.bool (decide_eq_true (by subst_vars; first | rfl | decide | (simp only [ex19E, ex19D, ex19F]; done) | (simp only [ex19E, ex19D, ex19F]; first | rfl | decide) | exact ex19H.1 | (rw [ex19H.1]; done) | (rw [ex19H.2]; done))) | (simp only [ex19H.1, ex19H.2]; rfl)))
      · -- TTF
        first | exact absurd (by subst_vars; first | rfl | decide | (simp only [ex19E, ex19D, ex19F]; done) | (simp only [ex19E, ex19D, ex19F]; first | rfl | decide) | exact ex19H.1 | (rw [ex19H.1]; done) | (rw [ex19H.2]; done)) hc18 | (rw [ex19H.1] at hc18; cases hc18) | (rw [ex19H.2] at hc18; cases hc18)
    · -- TF
      first | exact absurd (by subst_vars; first | rfl | decide | (simp only [ex19E, ex19D, ex19F]; done) | (simp only [ex19E, ex19D, ex19F]; first | rfl | decide) | exact ex19H.1 | (rw [ex19H.1]; done) | (rw [ex19H.2]; done)) hc17 | (rw [ex19H.1] at hc17; cases hc17) | (rw [ex19H.2] at hc17; cases hc17)
  · -- F
    first | exact absurd (by subst_vars; first | rfl | decide | (simp only [ex19E, ex19D, ex19F]; done) | (simp only [ex19E, ex19D, ex19F]; first | rfl | decide) | exact ex19H.1 | (rw [ex19H.1]; done) | (rw [ex19H.2]; done)) hc14 | (rw [ex19H.1] at hc14; cases hc14) | (rw [ex19H.2] at hc14; cases hc14)
end
section
set_option linter.unusedVariables false
def overH (h : DH) : DH := (-h.1 - 1, h.2.1, h.2.2)
def hdO (h : DH) : Hd := h.2.2
variable {mo : Mem} {hss l : List (List DH)} {d was : List (List DCommit)} {p k : Nat} {x : List DH} {y : List DCommit} {a : DH} {b : DCommit}
theorem hdr_row (hF : F2 (F2 (Pc TOp mo)) hss d) (hl : l = hss.map (List.map overH)) (hw : was = d) (hx : l[p]? = some x) (hy : was[p]? = some y) : ∃ h, x = h.map overH ∧ F2 (Pc TOp mo) h y := by
  rw [hl, List.getElem?_map] at hx
  obtain ⟨h, hh, rfl⟩ := Option.map_eq_some_iff.1 hx
  obtain ⟨y', hy', hp⟩ := hF.get hh
  rw [hw, hy'] at hy
  obtain rfl := Option.some.inj hy
  exact ⟨h, rfl, hp⟩
theorem hdr_len (hF : F2 (F2 (Pc TOp mo)) hss d) (hl : l = hss.map (List.map overH)) (hw : was = d) (hx : l[p]? = some x) (hy : was[p]? = some y) : x.length = y.length := by
  obtain ⟨h, rfl, hp⟩ := hdr_row hF hl hw hx hy
  rw [List.length_map, hp.len]
theorem hdr_at (hF : F2 (F2 (Pc TOp mo)) hss d) (hl : l = hss.map (List.map overH)) (hw : was = d) (hx : l[p]? = some x) (hy : was[p]? = some y) (ha : x[k]? = some a) (hb : y[k]? = some b) : a.1 = -b.1 - 1 := by
  obtain ⟨h, rfl, hp⟩ := hdr_row hF hl hw hx hy
  rw [List.getElem?_map] at ha
  obtain ⟨h0, hh, rfl⟩ := Option.map_eq_some_iff.1 ha
  obtain ⟨b', hb', hq⟩ := hp.get hh
  rw [hb'] at hb
  obtain rfl := Option.some.inj hb
  show -h0.1 - 1 = _
  rw [hq.1]
theorem flat_next {α β : Type} {f : α → β} {o : List β} {hs : List (List α)} {i : Nat} {r : List α} (h : o = (hs.take i).flatten.map f) (hr : hs[i]? = some r) : o ++ r.map f = (hs.take (i + 1)).flatten.map f := by
  rw [take_one hr, List.flatten_append, List.map_append, h]; simp
theorem flat_room {α β : Type} {f : α → β} {o : List β} {hs : List (List α)} {i : Nat} {r : List α} (h : o = (hs.take i).flatten.map f) (hr : hs[i]? = some r) : o.length + r.length ≤ hs.flatten.length := by
  have h1 := congrArg List.length (flat_next h hr)
  have h3 := congrArg (fun l => l.flatten.length) (List.take_append_drop (i + 1) hs)
  simp only [List.flatten_append, List.length_append] at h3
  simp only [List.length_append, List.length_map] at h1
  omega
theorem flat_len {α β : Type} {R : α → β → Prop} {hs : List (List α)} {d : List (List β)} (h : F2 (F2 R) hs d) : hs.flatten.length = d.flatten.length := by
  induction h with
  | nil => rfl
  | cons h _ ih => simp only [List.flatten_cons, List.length_append, h.len, ih]
theorem ops_room {n j : Nat} {d : List (List DCommit)} (h : ∀ x ∈ d, ∀ c ∈ x, c.2.2.length ≤ n ∧ ∀ o ∈ c.2.2, o.2.1.length ≤ j) : ∀ x ∈ d.flatten.map (fun x => x.2.2), x.length ≤ n ∧ ∀ o ∈ x, o.2.1.length ≤ j := fun x hx => by
  obtain ⟨c, hc, rfl⟩ := List.mem_map.1 hx
  obtain ⟨r, hr, hcr⟩ := List.mem_flatten.1 hc
  exact h r hr c hcr
end
section
set_option linter.unusedVariables false
set_option linter.unusedSimpArgs false
set_option maxRecDepth 4000
theorem fnOk67 : fnOk Try.prog 67 = true := by kernel_rfl
theorem fnOk68 : fnOk Try.prog 68 = true := by kernel_rfl
theorem fnOk69 : fnOk Try.prog 69 = true := by kernel_rfl
theorem fnOk70 : fnOk Try.prog 70 = true := by kernel_rfl
theorem tsl46 : tsl Try.prog 46 = some (22, 1, 24) := by kernel_rfl
theorem tz22 : tz Try.prog 22 = some [.slice none 0 0] := by kernel_rfl
theorem OpsOf_ok (W : World) {v0 : Value} {d0 : List DHC} (h0 : Rd (.sl THC) (wm W) [v0] d0) (e0 : d0.length ≤ 3518437200000) : CallR Try.prog 68 [v0] W (mnil) (fun v m' => ∃ (s0 : Value), v = s0 ∧ Ow (.sl .hdr) m' [s0] (d0.map hdO)) := by
  obtain ⟨A0, c0, rfl, l0, k0⟩ := h0.slice
  simp only [maxLen] at k0
  refine CallR.ofA (n := 20) Try.func68 rfl rfl rfl ?_
  refine VC.rs ?_
  refine VO.as ?_
  refine VO.k2 0 2 ?_
  refine VC.rs ?_
  refine VO.as ?_
  refine VO.k3 0 2 3 ?_
  refine VC.seq ?_
  refine VC.rs ?_
  refine VO.as ?_
  refine VO.kp [0] [(0, wm W)] ?_
  refine VO.k4 0 2 3 4 ?_
  refine VC.block ?_
  refine VC.inv ((101, mnil) :: _) (fun _ h => h.nilc 101) ?_
  refine VC.loop (G := Nat × (List Hd) × (Option Addr) × Nat × Mem) (fun g => [(3, Value.slice (g.2.2.1) ((g.2.1).length) ((g.2.2.2.1))), (4, Value.int .i64 ((((g.1) : Nat) : Int))), (0, Value.slice A0 (d0.length) (c0)), (2, Value.slice none (0) (0))]) (fun g => [(101, (g.2.2.2.2)), (0, wm W)]) (fun g => ((g.1) ≤ d0.length) ∧ ((g.2.1) = (d0.take (g.1)).map hdO) ∧ (OwnL .hdr (g.2.2.2.2) mnil (.slice (g.2.2.1) (g.2.1).length (g.2.2.2.1)) (g.2.1))) (fun g => d0.length - (g.1)) (0, [], none, 0, mnil) (⟨by omega, by rfl, (OwnL.nil .hdr mnil mnil)⟩) ⟨⟨rfl, rfl, rfl, rfl, trivial⟩, fun _ h => h.sub [101, 0]⟩ ?_
  rintro ⟨k, out, out_A, out_c, out_m⟩ ⟨hk, ho, h_out⟩
  replace hk : k ≤ d0.length := hk
  replace ho : out = (d0.take k).map hdO := ho
  replace h_out : OwnL .hdr out_m mnil (.slice out_A out.length out_c) out := h_out
  show VC _ _ _ _ _ [(3, Value.slice out_A (out.length) (out_c)), (4, Value.int .i64 (((k : Nat) : Int))), (0, Value.slice A0 (d0.length) (c0)), (2, Value.slice none (0) (0))] [(101, out_m), (0, wm W)]
  have l_out : out.length ≤ out_c := by obtain ⟨_, _, he, hl, _⟩ := h_out.slice; simp only [Value.slice.injEq] at he; omega
  have k_out : out_c ≤ 9223372036854775807 := by obtain ⟨_, _, he, _, hl⟩ := h_out.slice; simp only [Value.slice.injEq, maxLen] at he hl; omega
  have hlo : out.length ≤ k := by rw [ho]; simp; omega
  refine VC.seq ?_
  refine VC.rs ?_
  refine VO.mv ?_
  refine VO.mv ?_
  refine VO.y rfl (.lenS rfl tsl22) ?_
  refine VO.y rfl (.lss rfl rfl) ?_
  refine VO.k5 0 2 3 4 8 ?_
  refine VC.cond rfl (fun hc2 => ?_) (fun hc2 => ?_)
  · -- T
    refine VC.skip ?_
    refine outN ?_
    refine VC.seq ?_
    refine VC.block ?_
    refine VC.reg ?_
    refine VO.mv ?_
    refine VO.mv ?_
    refine VO.mv ?_
    obtain ⟨x3, hx3⟩ : ∃ z_, (d0)[k]? = some z_ := ⟨_, List.getElem?_eq_getElem bd⟩
    obtain ⟨gg3, oo3, ec3, ea3, hce3, hre3⟩ := h0.elem hx3
    cases ea3
    obtain ⟨rfl, q3_0, q3_1⟩ := open_HC (x0 := x3.1) (x1 := x3.2.1) (x2 := x3.2.2) hre3
    simp only [inK] at q3_0
    simp only [inK] at q3_1
    refine VO.y rfl (.ixI k rfl rfl tsl22 rfl bd) ?_
    refine VO.y rfl (.fa rfl tst32 rfl) ?_
    refine VO.y rfl (.ld1 0 rfl tk30 rfl (hce3.at1 (j := 2) rfl)) ?_
    refine VO.bsl (cs := [Value.slice x3.2.2.1 (x3.2.2.2.1) (x3.2.2.2.2)]) 105 rfl rfl tsl91 tz30 rfl rfl (fun g4 => ?_)
    obtain ⟨mo6, cs6, hM6, hA6, hC6⟩ := h_out
    refine VO.app 101 rfl rfl rfl tsl91 tz30 rfl rfl hM6 hA6 (.row 105 _ _ _ 1 1 _ _ Try.underlying91 rfl (cellsAt_one rfl rfl)) (by simp [Value.oneCell']) bdm bd (by decide) (fun v6 m6 hN6 => ?_)
    have ho6 : OwnL .hdr m6 mnil v6 (out ++ [x3.2.2]) := OwnL.one hC6 hN6 (show Rd .hdr _ [_] _ from rfl)
    obtain ⟨A6, c6, rfl, l6, k6⟩ := ho6.slice
    simp only [maxLen] at k6
    refine VO.as ?_
    refine VO.k5 0 2 3 4 8 ?_
    refine outBN ?_
    refine outN ?_
    refine VC.reg ?_
    refine VO.mv ?_
    refine VO.y rfl (.add (c := ((k + 1 : Nat) : Int)) rfl rfl (by omega) ⟨bd, bd⟩) ?_
    refine VO.as ?_
    refine VO.kp [101, 0] [(101, m6), (0, wm W)] ?_
    refine VO.k5 0 2 3 4 8 ?_
    exact outN ⟨⟨k + 1, out ++ [x3.2.2], A6, c6, m6⟩, ⟨by omega, by (rw [ho, take_one ‹d0[k]? = some _›, List.map_append]; rfl), ho6⟩, bd, ⟨⟨rfl, rfl, rfl, rfl, trivial⟩, fun _ h => Inv.sub h [101, 0]⟩⟩
  · -- F
    refine VC.exit ?_
    refine outE ?_
    refine outE ?_
    refine outBB ?_
    refine outN ?_
    refine VC.rs ?_
    refine VO.mv ?_
    refine VO.as ?_
    refine VO.k5 0 2 3 4 8 ?_
    refine VC.ret ?_
    refine ⟨_, _, res_run (rs := [.tmp 2]) rfl (.tmp rfl .nil), fun W_ hI => out_of (l := [out_m]) hI [101] rfl rfl (mle_refl _) (fun hS_ => ?_)⟩
    dsimp only [packV]
    have he0 : (d0.map hdO : Ty.Den (.sl .hdr)) = out := by first | rfl | (rw [ho, List.take_of_length_le (by omega)])
    refine ⟨Value.slice out_A (out.length) (out_c), ?_, ?_⟩
    rotate_left
    · rw [he0]; exact (Ow.up (OwnL.ow h_out rfl) (hS_.1 _ (.head _)))
    all_goals (first | rfl | (simp [*]; done))
theorem overCommits_ok (W : World) {m0 : Mem} (hm : mle (m0) (wm W)) {v0 : Value} {d0 : List DHC} (h0 : Ow (.sl THC) m0 [v0] d0) : CallR Try.prog 69 [v0] W (m0) (fun v m' => v = .tuple #[] ∧ Ow (.sl THC) m' [v0] (d0.map overH)) := by
  obtain ⟨A0, c0, e0_, l0, k0⟩ := h0.slice
  subst e0_
  simp only [maxLen] at k0
  refine CallR.ofB (n := 30) hm Try.func69 rfl rfl rfl ?_
  refine VC.rs ?_
  refine VO.mv ?_
  refine VO.y rfl (.capS rfl tsl22) ?_
  refine VO.as ?_
  refine VO.k2 0 2 ?_
  refine VC.seq ?_
  refine VC.rs ?_
  refine VO.as ?_
  refine VO.k3 0 2 3 ?_
  refine VC.block ?_
  refine VC.loop (G := Nat × (List DHC) × Mem) (fun g => [(0, Value.slice A0 (d0.length) (c0)), (3, Value.int .i64 ((((g.1) : Nat) : Int))), (2, Value.int .i64 (((c0 : Nat) : Int)))]) (fun g => [(0, mout (wm W) (m0)), (1, (g.2.2))]) (fun g => ((g.1) ≤ d0.length) ∧ ((g.2.1) = (d0.take (g.1)).map overH ++ d0.drop (g.1)) ∧ (OwnL THC (g.2.2) mnil (.slice A0 (d0.length) (c0)) (g.2.1))) (fun g => d0.length - (g.1)) (0, d0, m0) (⟨by omega, by simp, (Ow.ownl h0 rfl mnil)⟩) ⟨⟨rfl, rfl, rfl, trivial⟩, fun _ h => h.sub [0, 1]⟩ ?_
  rintro ⟨k, l, l_m⟩ ⟨hk, hl, h_l⟩
  replace hk : k ≤ d0.length := hk
  replace hl : l = (d0.take k).map overH ++ d0.drop k := hl
  replace h_l : OwnL THC l_m mnil (.slice A0 (d0.length) (c0)) l := h_l
  show VC _ _ _ _ _ [(0, Value.slice A0 (d0.length) (c0)), (3, Value.int .i64 (((k : Nat) : Int))), (2, Value.int .i64 (((c0 : Nat) : Int)))] [(0, mout (wm W) (m0)), (1, l_m)]
  have ll_l := slice_len (OwnL.ow h_l rfl)
  refine VC.seq ?_
  refine VC.rs ?_
  refine VO.mv ?_
  refine VO.mv ?_
  refine VO.y rfl (.lenS rfl tsl22) ?_
  refine VO.y rfl (.lss rfl rfl) ?_
  refine VO.kp [0, 1] [(0, mout (wm W) (m0)), (1, l_m)] ?_
  refine VO.k4 0 2 3 9 ?_
  refine VC.cond rfl (fun hc1 => ?_) (fun hc1 => ?_)
  · -- T
    refine VC.skip ?_
    refine outN ?_
    refine VC.seq ?_
    refine VC.block ?_
    refine VC.reg ?_
    refine VO.mv ?_
    refine VO.mv ?_
    refine VO.mv ?_
    refine VO.mv ?_
    obtain ⟨x2, hx2⟩ : ∃ z_, (l)[k]? = some z_ := ⟨_, List.getElem?_eq_getElem bd⟩
    obtain ⟨gg2, oo2, ec2, ea2, hce2, hre2⟩ := h_l.elem hx2
    cases ea2
    obtain ⟨rfl, q2_0, q2_1⟩ := open_HC (x0 := x2.1) (x1 := x2.2.1) (x2 := x2.2.2) hre2
    simp only [inK] at q2_0
    simp only [inK] at q2_1
    refine VO.y rfl (.ixI k rfl rfl tsl22 rfl bd) ?_
    refine VO.y rfl (.fa rfl tst32 rfl) ?_
    refine VO.y rfl (.ld1 1 rfl tk3 rfl (hce2.at1 (j := 0) rfl)) ?_
    refine VO.y rfl (.cpl rfl ⟨bd, bd⟩) ?_
    refine VO.y rfl (.ixI k rfl rfl tsl22 rfl bd) ?_
    refine VO.y rfl (.fa rfl tst32 rfl) ?_
    refine VO.upd (e := THC) (k := 1) (i := k) (x' := (-x2.1 - 1, x2.2)) 1 0 rfl rfl (.inr ⟨tk3, rfl⟩) rfl rfl rfl (OwnL.ow h_l rfl) rfl hx2 rfl (fun mi ec he => by obtain ⟨rfl, z0, z1⟩ := open_HC (x0 := x2.1) (x1 := x2.2.1) (x2 := x2.2.2) (he.rd (mle_refl _)); exact Ow.of (m := mnil) rfl (mk_HC (-x2.1 - 1) x2.2.1 x2.2.2 bdk z1)) (fun mu4 hu4 => ?_)
    have hl4 := slice_len hu4
    refine VO.k4 0 2 3 9 ?_
    refine outBN ?_
    refine outN ?_
    refine VC.reg ?_
    refine VO.mv ?_
    refine VO.y rfl (.add (c := ((k + 1 : Nat) : Int)) rfl rfl (by omega) ⟨bd, bd⟩) ?_
    refine VO.as ?_
    refine VO.k4 0 2 3 9 ?_
    exact outN ⟨⟨k + 1, (l).set k (-x2.1 - 1, x2.2), mu4⟩, ⟨by omega, by exact (over_set (f := overH) hl ‹l[k]? = some _›).2, (Ow.ownl hu4 rfl mnil)⟩, bd, ⟨⟨rfl, rfl, rfl, trivial⟩, fun _ h => Inv.sub h [0, 1]⟩⟩
  · -- F
    refine VC.exit ?_
    refine outE ?_
    refine outE ?_
    refine outBB ?_
    refine outN ?_
    refine VC.block ?_
    refine VC.loop (G := (List DHC) × Mem × Nat) (fun g => [(0, Value.slice A0 ((g.2.2)) (c0)), (2, Value.int .i64 (((c0 : Nat) : Int))), (3, Value.int .i64 (((k : Nat) : Int))), (9, Value.bool (decide (((k : Nat) : Int) < ((d0.length : Nat) : Int))))]) (fun g => [(0, mout (wm W) (m0)), (1, (g.2.1))]) (fun g => (∃ j, (g.1) = d0.map overH ++ List.replicate j (99, 0, (none, 0, 0))) ∧ ((g.2.2) ≤ c0) ∧ (OwnL THC (g.2.1) mnil (.slice A0 ((g.2.2)) (c0)) (g.1))) (fun g => c0 - (g.2.2)) (l, l_m, d0.length) (⟨by (exact ⟨0, by rw [hl, List.take_of_length_le (by omega), List.drop_of_length_le (by omega)]; simp⟩), by omega, h_l⟩) ⟨⟨rfl, rfl, rfl, rfl, trivial⟩, fun _ h => h.sub [0, 1]⟩ ?_
    rintro ⟨l2, l2_m, l2_n⟩ ⟨hl2, hc, h_l2⟩
    replace hl2 : ∃ j, l2 = d0.map overH ++ List.replicate j (99, 0, (none, 0, 0)) := hl2
    replace hc : l2_n ≤ c0 := hc
    replace h_l2 : OwnL THC l2_m mnil (.slice A0 (l2_n) (c0)) l2 := h_l2
    show VC _ _ _ _ _ [(0, Value.slice A0 (l2_n) (c0)), (2, Value.int .i64 (((c0 : Nat) : Int))), (3, Value.int .i64 (((k : Nat) : Int))), (9, Value.bool (decide (((k : Nat) : Int) < ((d0.length : Nat) : Int))))] [(0, mout (wm W) (m0)), (1, l2_m)]
    have ll_l2 := slice_len (OwnL.ow h_l2 rfl)
    refine VC.seq ?_
    refine VC.rs ?_
    refine VO.mv ?_
    refine VO.y rfl (.lenS rfl tsl22) ?_
    refine VO.mv ?_
    refine VO.y rfl (.lss rfl rfl) ?_
    refine VO.k5 0 2 3 9 25 ?_
    refine VC.cond rfl (fun hc5 => ?_) (fun hc5 => ?_)
    · -- FT
      refine VC.skip ?_
      refine outN ?_
      refine VC.block ?_
      refine VC.reg ?_
      refine VO.mv ?_
      refine VO.y rfl (.bst (cs := [Value.int .i64 (99), Value.int .i64 (0), Value.slice none (0) (0)]) rfl tst32 tz32 rfl) ?_
      refine VO.bsl (cs := [Value.int .i64 (99), Value.int .i64 (0), Value.slice none (0) (0)]) 107 rfl rfl tsl22 tz32 rfl rfl (fun g6 => ?_)
      refine VO.inv ((109, mnil) :: _) (fun _ h => h.nilc 109) ?_
      have hxl8 := slice_len (OwnL.ow h_l2 rfl)
      refine VO.appI (e := THC) (xs := l2) (cap := c0) (A := A0) (l := l2_n) 1 109 107 rfl rfl rfl tsl22 rfl rfl rfl (OwnL.ow h_l2 rfl) (Ow.of (m := mnil) rfl (mk_HC (m := _) 99 0 (none, 0, 0) bdk bdk)) Try.underlying22 (cellsAt_one rfl rfl) bd (fun m8 ho8 => ?_)
      refine VO.as ?_
      refine VO.k5 0 2 3 9 25 ?_
      refine outBN ?_
      exact outN ⟨⟨l2 ++ [(99, 0, (none, 0, 0))], m8, l2_n + 1⟩, ⟨by exact over_more hl2, by dsimp only; omega, (Ow.ownl ho8 rfl mnil)⟩, by (dsimp only; omega), ⟨⟨rfl, rfl, rfl, rfl, trivial⟩, fun _ h => Inv.sub h [0, 1]⟩⟩
    · -- FF
      refine VC.exit ?_
      refine outE ?_
      refine outE ?_
      refine outBB ?_
      have hcut0 := Ow.pre (j := d0.length) (OwnL.ow h_l2 rfl) bd
      refine ⟨_, _, res_run (rs := []) rfl .nil, fun W_ hI => out_of (l := [l2_m]) hI [1] rfl rfl (mle_refl _) (fun hS_ => ?_)⟩
      dsimp only [packV]
      have hm0_ : (d0.map overH : Ty.Den (.sl THC)) = (l2).take d0.length := by first | rfl | (obtain ⟨j, rfl⟩ := hl2; simp)
      refine ⟨?_, ?_⟩
      rotate_left
      · rw [hm0_]; exact (Ow.up hcut0 (hS_.1 _ (.head _)))
      all_goals (first | rfl | (simp [*]; done))
theorem fin0_ApartCommits_ok {P : Prop} (h : P := by first | omega | (simp only [List.length_append, List.length_nil, List.length_cons, List.length_take, List.length_drop] at *; omega) | (have h_ := flat_room ho ‹hss[_]? = some _›; have h2_ := flat_len hF; simp only [List.length_append, List.length_map] at *; omega) | (have h_ := hdr_len hF hl4 hw4 ‹l[_]? = some _› ‹was[_]? = some _›; omega)) : P := h
theorem ApartCommits_ok (W : World) {m0 : Mem} (hm : mle (m0) (wm W)) {v0 : Value} {d0 : List (List DCommit)} (h0 : Ow (.sl (.sl TCommit)) m0 [v0] d0) (e0 : d0.length ≤ 1000) (e1 : ∀ x ∈ d0, x.length ≤ 3518437200000) (e2 : d0.flatten.length ≤ 1000) (e3 : ∀ x ∈ d0, ∀ c ∈ x, c.2.2.length ≤ 3518437208800 ∧ ∀ o ∈ c.2.2, o.2.1.length ≤ 140737488400000) : CallR Try.prog 27 [v0] W (m0) (fun v m' => v = .bool true) := by
  obtain ⟨A0, c0, e0_, l0, k0⟩ := h0.slice
  subst e0_
  simp only [maxLen] at k0
  refine CallR.ofB (n := 89) hm Try.func27 rfl rfl rfl ?_
  obtain ⟨hss, ml, mo, hSp, hL, hF, hO⟩ := Ow.peelLL (e := TOp) h0
  have hlh := hF.len
  refine VC.inv _ (fun _ h => h.parts (i := 1) rfl hSp [1, 2]) ?_
  refine VC.rs ?_
  refine VO.as ?_
  refine VO.k2 0 2 ?_
  refine VC.rs ?_
  refine VO.mv ?_
  refine VO.y rfl (.lenS rfl tsl46) ?_
  refine VO.mks (e := (.sl TCommit)) (a := ((d0.length : Nat) : Int)) (k := d0.length) 101 rfl rfl rfl rfl tsl46 tz22 (y := []) (Ow.nil _ mnil) (by simp only [maxLen]; (exact fin0_ApartCommits_ok)) (by exact fin0_ApartCommits_ok) (by decide) (fun v1 m1 hk1 => ?_)
  obtain ⟨A1, c1, rfl, l1, k1⟩ := hk1.slice
  simp only [maxLen] at k1
  have ln1 : (List.replicate d0.length ([] : List DCommit)).length = d0.length := List.length_replicate
  refine VO.as ?_
  refine VO.k3 0 2 3 ?_
  refine VC.rs ?_
  refine VO.as ?_
  refine VO.kp [101, 1, 2, 0] [(101, m1), (1, ml), (2, mo), (0, mout (wm W) (m0))] ?_
  refine VO.k4 0 2 3 4 ?_
  refine VC.seq ?_
  refine VC.rs ?_
  refine VO.as ?_
  refine VO.k5 0 2 3 4 5 ?_
  refine VC.block ?_
  refine VC.inv ((102, mnil) :: _) (fun _ h => h.nilc 102) ?_
  refine VC.loop (G := Nat × (List (List DCommit)) × Mem × (List Hd) × (Option Addr) × Nat × Mem) (fun g => [(3, Value.slice A1 ((List.replicate d0.length ([] : List DCommit)).length) (c1)), (4, Value.slice (g.2.2.2.2.1) ((g.2.2.2.1).length) ((g.2.2.2.2.2.1))), (5, Value.int .i64 ((((g.1) : Nat) : Int))), (0, Value.slice A0 (d0.length) (c0)), (2, Value.bool false)]) (fun g => [(102, (g.2.2.2.2.2.2)), (101, (g.2.2.1)), (1, ml), (2, mo), (0, mout (wm W) (m0))]) (fun g => ((g.1) ≤ d0.length) ∧ ((g.2.1) = d0.take (g.1) ++ List.replicate (d0.length - (g.1)) []) ∧ ((g.2.2.2.1) = (hss.take (g.1)).flatten.map hdO) ∧ (Ow (.sl (.sl TCommit)) (g.2.2.1) [.slice A1 ((List.replicate d0.length ([] : List DCommit)).length) (c1)] (g.2.1)) ∧ (OwnL .hdr (g.2.2.2.2.2.2) mnil (.slice (g.2.2.2.2.1) (g.2.2.2.1).length (g.2.2.2.2.2.1)) (g.2.2.2.1))) (fun g => d0.length - (g.1)) (0, List.replicate d0.length ([] : List DCommit), m1, [], none, 0, mnil) (⟨by omega, by simp, by rfl, hk1, (OwnL.nil .hdr mnil mnil)⟩) ⟨⟨rfl, rfl, rfl, rfl, rfl, trivial⟩, fun _ h => h.sub [102, 101, 1, 2, 0]⟩ ?_
  rintro ⟨i, was, was_m, ops, ops_A, ops_c, ops_m⟩ ⟨hi, hw, ho, h_was, h_ops⟩
  replace hi : i ≤ d0.length := hi
  replace hw : was = d0.take i ++ List.replicate (d0.length - i) [] := hw
  replace ho : ops = (hss.take i).flatten.map hdO := ho
  replace h_was : Ow (.sl (.sl TCommit)) was_m [.slice A1 ((List.replicate d0.length ([] : List DCommit)).length) (c1)] was := h_was
  replace h_ops : OwnL .hdr ops_m mnil (.slice ops_A ops.length ops_c) ops := h_ops
  show VC _ _ _ _ _ [(3, Value.slice A1 ((List.replicate d0.length ([] : List DCommit)).length) (c1)), (4, Value.slice ops_A (ops.length) (ops_c)), (5, Value.int .i64 (((i : Nat) : Int))), (0, Value.slice A0 (d0.length) (c0)), (2, Value.bool false)] [(102, ops_m), (101, was_m), (1, ml), (2, mo), (0, mout (wm W) (m0))]
  have ll_was := slice_len h_was
  have l_ops : ops.length ≤ ops_c := by obtain ⟨_, _, he, hl, _⟩ := h_ops.slice; simp only [Value.slice.injEq] at he; omega
  have k_ops : ops_c ≤ 9223372036854775807 := by obtain ⟨_, _, he, _, hl⟩ := h_ops.slice; simp only [Value.slice.injEq, maxLen] at he hl; omega
  refine VC.seq ?_
  refine VC.rs ?_
  refine VO.mv ?_
  refine VO.mv ?_
  refine VO.y rfl (.lenS rfl tsl46) ?_
  refine VO.y rfl (.lss rfl rfl) ?_
  refine VO.k6 0 2 3 4 5 15 ?_
  refine VC.cond rfl (fun hc3 => ?_) (fun hc3 => ?_)
  · -- T
    refine VC.skip ?_
    refine outN ?_
    refine VC.seq ?_
    refine VC.block ?_
    refine VC.rs ?_
    refine VO.mv ?_
    refine VO.mv ?_
    refine VO.mv ?_
    refine VO.mv ?_
    obtain ⟨x4, hx4⟩ : ∃ z_, (hss)[i]? = some z_ := ⟨_, List.getElem?_eq_getElem (by exact fin0_ApartCommits_ok)⟩
    obtain ⟨gg4, oo4, ec4, ea4, hce4, hre4⟩ := (Ow.rd hL (mle_refl _)).elem hx4
    cases ea4
    have hr4 := hre4
    obtain ⟨A4_, c4_, rfl, _⟩ := hre4
    have rr4 := Rd.room hr4
    refine VO.y rfl (.ixI i rfl rfl tsl46 rfl (by exact fin0_ApartCommits_ok)) ?_
    refine VO.y rfl (.ld1 1 rfl tk22 rfl hce4) ?_
    obtain ⟨y4, hy4, hp4⟩ := hF.get (hx4)
    have hn4 := hp4.len
    have hm4 := e1 _ (List.mem_of_getElem? hy4)
    refine VO.callN 105 rfl fnOk67 rfl (fun W hW => CopyCommits_ok W (row_rd (e := TOp) (Rd.mono hr4 (hW.at (i := 1) rfl)) (hp4.mono fun _ _ h => Pc.mono h (hW.at (i := 2) rfl))) (by exact fin0_ApartCommits_ok) (by exact fun c hc => (e3 _ (List.mem_of_getElem? ‹d0[i]? = some _›) c hc).1)) (fun v5 m5 hv5 => ?_)
    obtain ⟨s5_0, rfl, f5_0⟩ := hv5
    obtain ⟨A5_0, c5_0, eq5_0, l5_0, k5_0⟩ := f5_0.slice
    subst eq5_0
    simp only [maxLen] at k5_0
    obtain ⟨x6, hx6⟩ : ∃ z_, (was)[i]? = some z_ := ⟨_, List.getElem?_eq_getElem (by exact fin0_ApartCommits_ok)⟩
    obtain ⟨gg6, oo6, ec6, ea6, hce6, hre6⟩ := (Ow.rd h_was (mle_refl _)).elem hx6
    cases ea6
    have hr6 := hre6
    obtain ⟨A6_, c6_, rfl, _⟩ := hre6
    have rr6 := Rd.room hr6
    refine VO.y rfl (.ixI i rfl rfl tsl46 rfl (by exact fin0_ApartCommits_ok)) ?_
    refine VO.setE (e := (.sl TCommit)) (k := 1) (i := i) 101 105 rfl rfl (.inr ⟨tk22, rfl⟩) rfl rfl rfl rfl h_was rfl hx6 (x' := y4) (Ow.up f5_0 ((Seps.one (mle_refl _)).1 _ (.head _))) (fun mu7 hu7 => ?_)
    have hl7 := slice_len hu7
    refine VO.kp [102, 101, 1, 2, 0] [(102, ops_m), (101, mu7), (1, ml), (2, mo), (0, mout (wm W) (m0))] ?_
    refine VO.k6 0 2 3 4 5 15 ?_
    refine VC.reg ?_
    refine VO.mv ?_
    refine VO.mv ?_
    refine VO.mv ?_
    refine VO.y rfl (.ixI i rfl rfl tsl46 rfl (by exact fin0_ApartCommits_ok)) ?_
    refine VO.y rfl (.ld1 1 rfl tk22 rfl hce4) ?_
    refine VO.callN 109 rfl fnOk68 rfl (fun W hW => OpsOf_ok W (Rd.mono hr4 (hW.at (i := 1) rfl)) (by exact fin0_ApartCommits_ok)) (fun v9 m9 hv9 => ?_)
    obtain ⟨s9_0, rfl, f9_0⟩ := hv9
    obtain ⟨A9_0, c9_0, eq9_0, l9_0, k9_0⟩ := f9_0.slice
    subst eq9_0
    simp only [maxLen] at k9_0
    obtain ⟨mo10, cs10, hM10, hA10, hC10⟩ := h_ops
    obtain ⟨all10, hS10, hR10⟩ := Rd.srcI (P := Try.prog) ((OwnL.rd (Ow.ownl f9_0 rfl mnil) (mle_refl _) (mle_nil _))) Try.underlying91
    refine VO.app 102 rfl rfl rfl tsl91 tz30 rfl rfl hM10 hA10 (hS10 _ 109 rfl) hR10.nice (by simp only [maxLen]; (exact fin0_ApartCommits_ok)) (by exact fin0_ApartCommits_ok) (by decide) (fun v10 m10 hN10 => ?_)
    have ho10 : OwnL .hdr m10 mnil v10 (ops ++ (x4.map hdO)) := OwnL.more hC10 hN10 (All2c.mono hR10 fun _ _ h => Rd.flat rfl h _)
    obtain ⟨A10, c10, rfl, l10, k10⟩ := ho10.slice
    simp only [maxLen] at k10
    refine VO.as ?_
    refine VO.k6 0 2 3 4 5 15 ?_
    refine outBN ?_
    refine outN ?_
    refine VC.reg ?_
    refine VO.mv ?_
    refine VO.y rfl (.add (c := ((i + 1 : Nat) : Int)) rfl rfl (by omega) ⟨by exact fin0_ApartCommits_ok, by exact fin0_ApartCommits_ok⟩) ?_
    refine VO.as ?_
    refine VO.k6 0 2 3 4 5 15 ?_
    exact outN ⟨⟨i + 1, (was).set i y4, mu7, ops ++ (x4.map hdO), A10, c10, m10⟩, ⟨by omega, by exact fill_next hw ‹d0[i]? = some _›, by exact flat_next ho ‹hss[i]? = some _›, hu7, ho10⟩, by exact fin0_ApartCommits_ok, ⟨⟨rfl, rfl, rfl, rfl, rfl, trivial⟩, fun _ h => Inv.sub h [102, 101, 1, 2, 0]⟩⟩
  · -- F
    refine VC.exit ?_
    refine outE ?_
    refine outE ?_
    refine outBB ?_
    refine outN ?_
    refine VC.seq ?_
    refine VC.rs ?_
    refine VO.as ?_
    refine VO.kp [102, 101, 1, 2, 0] [(102, ops_m), (101, was_m), (1, ml), (2, mo), (0, mout (wm W) (m0))] ?_
    refine VO.k7 0 2 3 4 5 6 15 ?_
    refine VC.block ?_
    refine VC.loop (G := Nat × (List (List DHC)) × Mem) (fun g => [(0, Value.slice A0 (d0.length) (c0)), (6, Value.int .i64 ((((g.1) : Nat) : Int))), (3, Value.slice A1 ((List.replicate d0.length ([] : List DCommit)).length) (c1)), (4, Value.slice ops_A (ops.length) (ops_c)), (5, Value.int .i64 (((i : Nat) : Int))), (15, Value.bool (decide (((i : Nat) : Int) < ((d0.length : Nat) : Int))))]) (fun g => [(102, ops_m), (101, was_m), (1, (g.2.2)), (2, mo), (0, mout (wm W) (m0))]) (fun g => (was = d0) ∧ ((g.1) ≤ d0.length) ∧ ((g.2.1) = (hss.take (g.1)).map (List.map overH) ++ hss.drop (g.1)) ∧ (Ow (.sl (.sl THC)) (g.2.2) [.slice A0 (d0.length) (c0)] (g.2.1))) (fun g => d0.length - (g.1)) (0, hss, ml) (⟨by exact fill_all hw (by omega), by omega, by simp, hL⟩) ⟨⟨rfl, rfl, rfl, rfl, rfl, rfl, trivial⟩, fun _ h => h.sub [102, 101, 1, 2, 0]⟩ ?_
    rintro ⟨j, l, l_m⟩ ⟨hw2, hj, hl, h_l⟩
    replace hw2 : was = d0 := hw2
    replace hj : j ≤ d0.length := hj
    replace hl : l = (hss.take j).map (List.map overH) ++ hss.drop j := hl
    replace h_l : Ow (.sl (.sl THC)) l_m [.slice A0 (d0.length) (c0)] l := h_l
    show VC _ _ _ _ _ [(0, Value.slice A0 (d0.length) (c0)), (6, Value.int .i64 (((j : Nat) : Int))), (3, Value.slice A1 ((List.replicate d0.length ([] : List DCommit)).length) (c1)), (4, Value.slice ops_A (ops.length) (ops_c)), (5, Value.int .i64 (((i : Nat) : Int))), (15, Value.bool (decide (((i : Nat) : Int) < ((d0.length : Nat) : Int))))] [(102, ops_m), (101, was_m), (1, l_m), (2, mo), (0, mout (wm W) (m0))]
    have ll_l := slice_len h_l
    refine VC.seq ?_
    refine VC.rs ?_
    refine VO.mv ?_
    refine VO.mv ?_
    refine VO.y rfl (.lenS rfl tsl46) ?_
    refine VO.y rfl (.lss rfl rfl) ?_
    refine VO.k7 0 3 4 5 6 15 36 ?_
    refine VC.cond rfl (fun hc11 => ?_) (fun hc11 => ?_)
    · -- FT
      refine VC.skip ?_
      refine outN ?_
      refine VC.seq ?_
      refine VC.block ?_
      refine VC.seq ?_
      refine VC.seq ?_
      refine VC.regD _ 8 [(0, true), (1, true), (2, true), (3, true), (4, true), (5, true), (6, true), (7, true)] follows (by kernel_rfl) (fun _ h => h.sub [102, 101, 1, 2, 0]) ?_
      refine VD.y rfl rfl (.inl rfl) (.mv rfl) ?_
      refine VD.y rfl rfl (.inl rfl) (.mv rfl) ?_
      obtain ⟨x12, hx12⟩ : ∃ z_, (l)[j]? = some z_ := ⟨_, List.getElem?_eq_getElem (by exact fin0_ApartCommits_ok)⟩
      obtain ⟨gg12, oo12, ec12, ea12, hce12, hre12⟩ := (Ow.rd h_l (mle_refl _)).elem hx12
      cases ea12
      have hr12 := hre12
      obtain ⟨A12_, c12_, rfl, _⟩ := hre12
      have rr12 := Rd.room hr12
      refine VD.y rfl rfl (.inl rfl) (.ixI j rfl rfl tsl46 rfl (by exact fin0_ApartCommits_ok)) ?_
      refine VD.y rfl rfl (.inl rfl) (.ld1 1 rfl tk22 rfl hce12) ?_
      obtain ⟨y12, hy12, hp12⟩ := hF.get ((over_set hl hx12).1)
      have hn12 := hp12.len
      have hm12 := e1 _ (List.mem_of_getElem? hy12)
      refine VD.y rfl rfl (.inl rfl) (.mv rfl) ?_
      refine VD.y rfl rfl (.inl rfl) (.mv rfl) ?_
      obtain ⟨x13, hx13⟩ : ∃ z_, (was)[j]? = some z_ := ⟨_, List.getElem?_eq_getElem (by exact fin0_ApartCommits_ok)⟩
      obtain ⟨gg13, oo13, ec13, ea13, hce13, hre13⟩ := (Ow.rd h_was (mle_refl _)).elem hx13
      cases ea13
      have hr13 := hre13
      obtain ⟨A13_, c13_, rfl, _⟩ := hre13
      have rr13 := Rd.room hr13
      refine VD.y rfl rfl (.inl rfl) (.ixI j rfl rfl tsl46 rfl (by exact fin0_ApartCommits_ok)) ?_
      refine VD.y rfl rfl (.inl rfl) (.ld1 101 rfl tk22 rfl hce13) ?_
      refine VD.nil rfl ?_ rfl
      refine VO.callN 114 rfl fnOk63 rfl (fun W hW => SameCommits_ok W (row_rd (e := TOp) (Rd.mono hr12 (hW.at (i := 1) rfl)) (hp12.mono fun _ _ h => Pc.mono h (hW.at (i := 2) rfl))) (Rd.mono hr13 (hW.at (i := 101) rfl))) (fun v14 m14 hv14 => ?_)
      subst hv14
      refine VO.y rfl (.notD rfl) ?_
      refine VO.k8 0 3 4 5 6 15 36 48 ?_
      refine outN ?_
      refine VC.cond rfl (fun hc15 => ?_) (fun hc15 => ?_)
      · -- FTT
        exact absurd (by have h_ := ‹was[j]? = some _›; rw [hw2] at h_; exact Option.some.inj (‹d0[j]? = some _›.symm.trans h_)) hc15
      · -- FTF
        refine VC.skip ?_
        refine outN ?_
        refine VC.reg ?_
        refine VO.mv ?_
        refine VO.mv ?_
        refine VO.y rfl (.ixI j rfl rfl tsl46 rfl (by exact fin0_ApartCommits_ok)) ?_
        refine VO.y rfl (.ld1 1 rfl tk22 rfl hce12) ?_
        obtain ⟨mr17, me17, hH17, hE17, hB17⟩ := Ow.hole h_l hx12 hce12
        refine VO.parts 1 [1, 118] rfl hH17 ?_
        refine VO.call 118 rfl fnOk69 rfl rfl (fun W hW => overCommits_ok W (hW.at (i := 118) rfl) hE17) (fun v17 m17 hv17 => ?_)
        obtain ⟨rfl, w17_0⟩ := hv17
        have wl17_0 := slice_len w17_0
        refine VO.gather (l := [mr17, m17]) 1 [1, 118] rfl (fun hg17 => ?_)
        have hL17 := Seps.back hg17 (fun hd_ => hB17 _ _ hd_ w17_0)
        have hl17 := slice_len hL17
        refine VO.kp [1, 102, 101, 2, 0] [(1, muns [mr17, m17]), (102, ops_m), (101, was_m), (2, mo), (0, mout (wm W) (m0))] ?_
        refine VO.k8 0 3 4 5 6 15 36 48 ?_
        refine outBN ?_
        refine outN ?_
        refine VC.reg ?_
        refine VO.mv ?_
        refine VO.y rfl (.add (c := ((j + 1 : Nat) : Int)) rfl rfl (by omega) ⟨by exact fin0_ApartCommits_ok, by exact fin0_ApartCommits_ok⟩) ?_
        refine VO.as ?_
        refine VO.k8 0 3 4 5 6 15 36 48 ?_
        exact outN ⟨⟨j + 1, (l).set j (x12.map overH), muns [mr17, m17]⟩, ⟨by exact hw2, by omega, by exact (over_set hl ‹l[j]? = some _›).2, hL17⟩, by exact fin0_ApartCommits_ok, ⟨⟨rfl, rfl, rfl, rfl, rfl, rfl, trivial⟩, fun _ h => Inv.sub h [102, 101, 1, 2, 0]⟩⟩
    · -- FF
      refine VC.exit ?_
      refine outE ?_
      refine outE ?_
      refine outBB ?_
      refine outN ?_
      refine VC.seq ?_
      refine VC.rs ?_
      refine VO.as ?_
      refine VO.k8 0 3 4 5 6 7 15 36 ?_
      refine VC.block ?_
      refine VC.loop (G := Nat) (fun p => [(7, Value.int .i64 (((p : Nat) : Int))), (0, Value.slice A0 (d0.length) (c0)), (3, Value.slice A1 ((List.replicate d0.length ([] : List DCommit)).length) (c1)), (4, Value.slice ops_A (ops.length) (ops_c)), (5, Value.int .i64 (((i : Nat) : Int))), (6, Value.int .i64 (((j : Nat) : Int))), (15, Value.bool (decide (((i : Nat) : Int) < ((d0.length : Nat) : Int)))), (36, Value.bool (decide (((j : Nat) : Int) < ((d0.length : Nat) : Int))))]) (fun p => [(102, ops_m), (101, was_m), (1, l_m), (2, mo), (0, mout (wm W) (m0))]) (fun p => (was = d0) ∧ (p ≤ d0.length) ∧ (l = hss.map (List.map overH))) (fun p => d0.length - p) 0 (⟨by exact hw2, by omega, by exact over_all hl (by omega)⟩) ⟨⟨rfl, rfl, rfl, rfl, rfl, rfl, rfl, rfl, trivial⟩, fun _ h => h.sub [102, 101, 1, 2, 0]⟩ ?_
      rintro p ⟨hw4, hp, hl4⟩
      refine VC.seq ?_
      refine VC.rs ?_
      refine VO.mv ?_
      refine VO.mv ?_
      refine VO.y rfl (.lenS rfl tsl46) ?_
      refine VO.y rfl (.lss rfl rfl) ?_
      refine VO.kp [102, 101, 1, 2, 0] [(102, ops_m), (101, was_m), (1, l_m), (2, mo), (0, mout (wm W) (m0))] ?_
      refine VO.k9 0 3 4 5 6 7 15 36 57 ?_
      refine VC.cond rfl (fun hc19 => ?_) (fun hc19 => ?_)
      · -- FFT
        refine VC.skip ?_
        refine outN ?_
        refine VC.seq ?_
        refine VC.block ?_
        refine VC.rs ?_
        refine VO.as ?_
        refine VO.k10 0 3 4 5 6 7 8 15 36 57 ?_
        refine VC.block ?_
        refine VC.loop (G := Nat) (fun k => [(8, Value.int .i64 (((k : Nat) : Int))), (0, Value.slice A0 (d0.length) (c0)), (3, Value.slice A1 ((List.replicate d0.length ([] : List DCommit)).length) (c1)), (4, Value.slice ops_A (ops.length) (ops_c)), (5, Value.int .i64 (((i : Nat) : Int))), (6, Value.int .i64 (((j : Nat) : Int))), (7, Value.int .i64 (((p : Nat) : Int))), (15, Value.bool (decide (((i : Nat) : Int) < ((d0.length : Nat) : Int)))), (36, Value.bool (decide (((j : Nat) : Int) < ((d0.length : Nat) : Int)))), (57, Value.bool (decide (((p : Nat) : Int) < ((d0.length : Nat) : Int))))]) (fun k => [(102, ops_m), (101, was_m), (1, l_m), (2, mo), (0, mout (wm W) (m0))]) (fun k => (k ≤ 9223372036854775807)) (fun k => 9223372036854775807 - k) 0 (by omega) ⟨⟨rfl, rfl, rfl, rfl, rfl, rfl, rfl, rfl, rfl, rfl, trivial⟩, fun _ h => h.sub [102, 101, 1, 2, 0]⟩ ?_
        rintro k hk
        refine VC.seq ?_
        refine VC.rs ?_
        refine VO.mv ?_
        refine VO.mv ?_
        refine VO.mv ?_
        obtain ⟨x20, hx20⟩ : ∃ z_, (l)[p]? = some z_ := ⟨_, List.getElem?_eq_getElem (by exact fin0_ApartCommits_ok)⟩
        obtain ⟨gg20, oo20, ec20, ea20, hce20, hre20⟩ := (Ow.rd h_l (mle_refl _)).elem hx20
        cases ea20
        have hr20 := hre20
        obtain ⟨A20_, c20_, rfl, _⟩ := hre20
        have rr20 := Rd.room hr20
        refine VO.y rfl (.ixI p rfl rfl tsl46 rfl (by exact fin0_ApartCommits_ok)) ?_
        refine VO.y rfl (.ld1 1 rfl tk22 rfl hce20) ?_
        refine VO.y rfl (.lenS rfl tsl22) ?_
        refine VO.y rfl (.lss rfl rfl) ?_
        refine VO.k11 0 3 4 5 6 7 8 15 36 57 66 ?_
        refine VC.cond rfl (fun hc21 => ?_) (fun hc21 => ?_)
        · -- FFTT
          refine VC.skip ?_
          refine outN ?_
          refine VC.seq ?_
          refine VC.block ?_
          refine VC.seq ?_
          refine VC.regD _ 17 [(0, true), (1, true), (2, true), (3, true), (4, true), (5, true), (6, true), (7, true), (8, true), (9, true), (10, true), (11, true), (12, true), (13, true), (14, true), (15, true), (16, true)] follows (by kernel_rfl) (fun _ h => h.sub [102, 101, 1, 2, 0]) ?_
          refine VD.y rfl rfl (.inl rfl) (.mv rfl) ?_
          refine VD.y rfl rfl (.inl rfl) (.mv rfl) ?_
          refine VD.y rfl rfl (.inl rfl) (.ixI p rfl rfl tsl46 rfl (by exact fin0_ApartCommits_ok)) ?_
          refine VD.y rfl rfl (.inl rfl) (.ld1 1 rfl tk22 rfl hce20) ?_
          refine VD.y rfl rfl (.inl rfl) (.mv rfl) ?_
          obtain ⟨x23, hx23⟩ : ∃ z_, (x20)[k]? = some z_ := ⟨_, List.getElem?_eq_getElem (by exact fin0_ApartCommits_ok)⟩
          obtain ⟨gg23, oo23, ec23, ea23, hce23, hre23⟩ := hr20.elem hx23
          cases ea23
          obtain ⟨rfl, q23_0, q23_1⟩ := open_HC (x0 := x23.1) (x1 := x23.2.1) (x2 := x23.2.2) hre23
          simp only [inK] at q23_0
          simp only [inK] at q23_1
          refine VD.y rfl rfl (.inl rfl) (.ixI k rfl rfl tsl22 rfl (by exact fin0_ApartCommits_ok)) ?_
          refine VD.y rfl rfl (.inl rfl) (.fa rfl tst32 rfl) ?_
          refine VD.y rfl rfl (.inl rfl) (.ld1 1 rfl tk3 rfl (hce23.at1 (j := 0) rfl)) ?_
          refine VD.y rfl rfl (.inl rfl) (.mv rfl) ?_
          refine VD.y rfl rfl (.inl rfl) (.mv rfl) ?_
          obtain ⟨x24, hx24⟩ : ∃ z_, (was)[p]? = some z_ := ⟨_, List.getElem?_eq_getElem (by exact fin0_ApartCommits_ok)⟩
          obtain ⟨gg24, oo24, ec24, ea24, hce24, hre24⟩ := (Ow.rd h_was (mle_refl _)).elem hx24
          cases ea24
          have hr24 := hre24
          obtain ⟨A24_, c24_, rfl, _⟩ := hre24
          have rr24 := Rd.room hr24
          refine VD.y rfl rfl (.inl rfl) (.ixI p rfl rfl tsl46 rfl (by exact fin0_ApartCommits_ok)) ?_
          refine VD.y rfl rfl (.inl rfl) (.ld1 101 rfl tk22 rfl hce24) ?_
          refine VD.y rfl rfl (.inl rfl) (.mv rfl) ?_
          obtain ⟨x25, hx25⟩ : ∃ z_, (x24)[k]? = some z_ := ⟨_, List.getElem?_eq_getElem (by exact fin0_ApartCommits_ok)⟩
          obtain ⟨gg25, oo25, ec25, ea25, hce25, hre25⟩ := hr24.elem hx25
          cases ea25
          obtain ⟨q25_A2, q25_c2, rfl, q25_0, q25_1, q25_2⟩ := open_Commit (x0 := x25.1) (x1 := x25.2.1) (x2 := x25.2.2) hre25
          simp only [inK] at q25_0
          simp only [inK] at q25_1
          have q25_r2 := Rd.room q25_2
          refine VD.y rfl rfl (.inl rfl) (.ixI k rfl rfl tsl22 rfl (by exact fin0_ApartCommits_ok)) ?_
          refine VD.y rfl rfl (.inl rfl) (.fa rfl tst32 rfl) ?_
          refine VD.y rfl rfl (.inl rfl) (.ld1 101 rfl tk3 rfl (hce25.at1 (j := 0) rfl)) ?_
          refine VD.y rfl rfl (.inl rfl) (.cpl rfl ⟨by exact fin0_ApartCommits_ok, by exact fin0_ApartCommits_ok⟩) ?_
          refine VD.nil rfl ?_ rfl
          refine VO.y rfl (.neq rfl rfl) ?_
          refine VO.kp [102, 101, 1, 2, 0] [(102, ops_m), (101, was_m), (1, l_m), (2, mo), (0, mout (wm W) (m0))] ?_
          refine VO.k12 0 3 4 5 6 7 8 15 36 57 66 86 ?_
          refine outN ?_
          refine VC.cond rfl (fun hc26 => ?_) (fun hc26 => ?_)
          · -- FFTTT
            exact absurd (hdr_at hF hl4 hw4 ‹l[p]? = some _› ‹was[p]? = some _› (by assumption) (by assumption)) hc26
          · -- FFTTF
            refine VC.skip ?_
            refine outBN ?_
            refine outN ?_
            refine VC.reg ?_
            refine VO.mv ?_
            refine VO.y rfl (.add (c := ((k + 1 : Nat) : Int)) rfl rfl (by omega) ⟨by exact fin0_ApartCommits_ok, by exact fin0_ApartCommits_ok⟩) ?_
            refine VO.as ?_
            refine VO.k12 0 3 4 5 6 7 8 15 36 57 66 86 ?_
            exact outN ⟨k + 1, by omega, by exact fin0_ApartCommits_ok, ⟨⟨rfl, rfl, rfl, rfl, rfl, rfl, rfl, rfl, rfl, rfl, trivial⟩, fun _ h => Inv.sub h [102, 101, 1, 2, 0]⟩⟩
        · -- FFTF
          refine VC.exit ?_
          refine outE ?_
          refine outE ?_
          refine outBB ?_
          refine outBN ?_
          refine outN ?_
          refine VC.reg ?_
          refine VO.mv ?_
          refine VO.y rfl (.add (c := ((p + 1 : Nat) : Int)) rfl rfl (by omega) ⟨by exact fin0_ApartCommits_ok, by exact fin0_ApartCommits_ok⟩) ?_
          refine VO.as ?_
          refine VO.kp [102, 101, 1, 2, 0] [(102, ops_m), (101, was_m), (1, l_m), (2, mo), (0, mout (wm W) (m0))] ?_
          refine VO.k11 0 3 4 5 6 7 8 15 36 57 66 ?_
          exact outN ⟨p + 1, ⟨by exact hw4, by omega, by exact hl4⟩, by exact fin0_ApartCommits_ok, ⟨⟨rfl, rfl, rfl, rfl, rfl, rfl, rfl, rfl, trivial⟩, fun _ h => Inv.sub h [102, 101, 1, 2, 0]⟩⟩
      · -- FFF
        refine VC.exit ?_
        refine outE ?_
        refine outE ?_
        refine outBB ?_
        refine outN ?_
        refine VC.rs ?_
        refine VO.mv ?_
        refine VO.gather (l := [ops_m, mo]) 128 [102, 2] rfl (fun hg27 => ?_)
        have hops : Ow (.sl (.sl TOp)) (muns [ops_m, mo]) [Value.slice ops_A (ops.length) (ops_c)] (d0.flatten.map fun x => x.2.2) := Ow.mkOps hg27 (OwnL.ow h_ops rfl) (by have e_ : ops = hss.flatten.map hdO := (by rw [ho, List.take_of_length_le (by omega)]); rw [e_, List.map_map]; exact hO)
        refine VO.call 128 rfl fnOk70 rfl rfl (fun W hW => ApartOps_ok W (hW.at (i := 128) rfl) hops (by rw [List.length_map]; exact e2) (by exact ops_room e3)) (fun v29 m29 hv29 => ?_)
        subst hv29
        refine VO.as ?_
        refine VO.k10 0 2 3 4 5 6 7 15 36 57 ?_
        refine VC.ret ?_
        refine ⟨_, _, res_run (rs := [.tmp 2]) rfl (.tmp rfl .nil), fun W_ hI => out_of (l := []) hI [] rfl rfl (mle_refl _) (fun hS_ => ?_)⟩
        dsimp only [packV]
        all_goals (first | rfl | (simp [*]; done))
end
section
set_option linter.unusedVariables false
theorem opsb_ge : ∀ {l : List DOp} {p : Bytes}, (∀ o ∈ l, opOk o) → 1 ≤ l.length → p = [] → 4 ≤ (encOps p l).length
  | o :: r, p, h, _, hp => by
    have ho := h o (.head _)
    subst hp
    have hs : shared [] o.2.1 = 0 := by unfold shared; cases o.2.1 <;> rfl
    have e : encOps [] (o :: r) = encOp [] o ++ encOps o.2.1 r := rfl
    have h1 : 4 ≤ (encOp [] o).length := by
      unfold encOp
      rw [hs]
      have h2 := venc_pos 0; have h3 := venc_pos (o.2.1.length - 0); have h4 := ho.1
      simp only [List.length_cons, List.length_append, List.drop_zero]
      omega
    rw [e, List.length_append]; omega
theorem frb_ge {c : DCommit} (h : cCheck c = 0) : 8 ≤ (cFrame c).length := by
  have h5 := (cCheck_zero h).2.2.2.2
  have hm := fun o => batchCheck_mem (o := o) h5
  have hl : 1 ≤ c.2.2.length := by
    unfold batchCheck at h5
    split at h5
    · cases h5
    · omega
  have h1 := opsb_ge hm hl rfl
  have h2 := venc_pos c.1.toNat; have h3 := venc_pos c.2.1.toNat; have h4 := venc_pos c.2.2.length
  have h6 : 7 ≤ (cEnc c).length := by
    unfold cEnc batchEnc
    simp only [List.length_append]; omega
  unfold cFrame fEnc
  have h7 := venc_pos (cEnc c).length
  simp only [List.length_append]; omega
theorem frbs_ge : ∀ {s : List DCommit}, (∀ c ∈ s, cCheck c = 0) → 8 * s.length ≤ (cFrames s).length
  | [], _ => Nat.zero_le _
  | c :: s, h => by
    have h1 := frb_ge (h c (.head _))
    have h2 := frbs_ge (s := s) fun x hx => h x (.tail _ hx)
    rw [cFrames_cons, List.length_append, List.length_cons]; omega
theorem sectEnc_ge {s : DSection} (h : sectCheck s = 0) : 4 + 8 * s.2.2.length ≤ (sectEnc s).length := by
  have h1 := frbs_ge (sect_commits h)
  have h2 := venc_pos s.1.toNat; have h3 := venc_pos s.2.1.toNat; have h4 := venc_pos s.2.2.length
  have h5 := venc_pos (sectHead s).length
  unfold sectEnc fEnc
  simp only [List.length_append] at *
  unfold sectHead at *
  simp only [List.length_append] at *
  omega
def secW (l : List DSection) : Nat := 4 * l.length + 8 * (l.map fun x => x.2.2).flatten.length
theorem secW_snoc (l : List DSection) (s : DSection) : secW (l ++ [s]) = secW l + (4 + 8 * s.2.2.length) := by
  unfold secW
  simp only [List.length_append, List.map_append, List.flatten_append, List.map_cons, List.map_nil, List.flatten_cons, List.flatten_nil, List.append_nil, List.length_cons, List.length_nil]
  omega
theorem scanS_w {B : Bytes} : ∀ {k : Nat} {out : List DSection} {a ep : Int}, (secW out : Int) ≤ a → (secW (scanS k B out a ep).1 : Int) ≤ (scanS k B out a ep).2
  | 0, _, _, _, h => h
  | k + 1, out, a, ep, h => by
    unfold scanS
    split
    · exact h
    · rename_i hn
      have hb : (secRead (B.drop a.toNat)).2.2 = true := by
        cases hc : (secRead (B.drop a.toNat)).2.2 with
        | true => rfl
        | false => exact absurd (.inl hc) hn
      obtain ⟨h1, _, h3⟩ := secRead_back hb
      have h4 := sectEnc_ge h1
      refine scanS_w ?_
      rw [secW_snoc]; omega
theorem scan_w (B : Bytes) : secW (scanF B).1 ≤ B.length := by
  have h1 := scanS_w (B := B) (k := B.length) (out := []) (a := 0) (ep := 0) (Int.le_refl _)
  have h2 := (scanF_bounds B).2.1
  have h3 : (secW (scanF B).1 : Int) ≤ (scanF B).2 := h1
  omega
theorem three_b {a b c : Bytes} (ha : a.length ≤ 28440) (hb : b.length ≤ 28440) (hc : c.length ≤ 28440) : ∀ x ∈ [a, b, c], x.length ≤ 140737488355000 := by
  intro x hx
  simp only [List.mem_cons, List.not_mem_nil, or_false] at hx
  rcases hx with h | h | h <;> subst h <;> omega
theorem comms_ge : ∀ {l : List DSection}, (∀ s ∈ l, sectCheck s = 0) → l.length ≤ (l.map fun x => x.2.2).flatten.length
  | [], _ => Nat.zero_le _
  | s :: l, h => by
    have h1 := (sect_ok (h s (.head _))).2.2.2.1
    have h2 := comms_ge (l := l) fun x hx => h x (.tail _ hx)
    simp only [List.map_cons, List.flatten_cons, List.length_append, List.length_cons]; omega
section
variable {B : Bytes} (hb : (B.length : Int) ≤ 4000)
include hb
theorem two_scan_0 : (((scanF B).1 ++ (scanF B).1).map fun x => x.2.2).length ≤ 1000 := by
  have h1 := scan_w B; have h2 := comms_ge (scanF_bounds B).2.2.2
  unfold secW at h1
  simp only [List.length_map, List.length_append]; omega
theorem two_scan_2 : (((scanF B).1 ++ (scanF B).1).map fun x => x.2.2).flatten.length ≤ 1000 := by
  have h1 := scan_w B; have h2 := comms_ge (scanF_bounds B).2.2.2
  unfold secW at h1
  have h3 : (scanF B).1.length = 0 → (scanF B).1 = [] := List.eq_nil_of_length_eq_zero
  simp only [List.map_append, List.flatten_append, List.length_append]
  by_cases h0 : (scanF B).1.length = 0
  · rw [h3 h0]; decide
  · omega
end
theorem two_scan_s {B : Bytes} {x : List DCommit} (hx : x ∈ (((scanF B).1 ++ (scanF B).1).map fun x => x.2.2)) : ∃ s, sectCheck s = 0 ∧ x = s.2.2 := by
  obtain ⟨s, hs, rfl⟩ := List.mem_map.1 hx
  have : s ∈ (scanF B).1 := by rcases List.mem_append.1 hs with h | h <;> exact h
  exact ⟨s, (scanF_bounds B).2.2.2 s this, rfl⟩
theorem two_scan_1 (B : Bytes) : ∀ x ∈ (((scanF B).1 ++ (scanF B).1).map fun x => x.2.2), x.length ≤ 3518437200000 := by
  intro x hx
  obtain ⟨s, h, rfl⟩ := two_scan_s hx
  have h1 := sect_fork h; have h2 := sect_ok h; omega
theorem two_scan_3 (B : Bytes) : ∀ x ∈ (((scanF B).1 ++ (scanF B).1).map fun x => x.2.2), ∀ c ∈ x, c.2.2.length ≤ 3518437208800 ∧ ∀ o ∈ c.2.2, o.2.1.length ≤ 140737488400000 := by
  intro x hx c hc
  obtain ⟨s, h, rfl⟩ := two_scan_s hx
  have h5 := (cCheck_zero (sect_commits h c hc)).2.2.2.2
  exact ⟨by have := batchCheck_ok h5; omega, fun o ho => by have := (batchCheck_mem h5 ho).2.1; omega⟩
end
end Go.Proofs.Ytbjkfnnabnacfaa
