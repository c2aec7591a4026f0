/- Part 6 of the proof of LOrphanTorn: what it needs of the library, the walks and the plain laws. Conditions: those named in each theorem. -/
import Derived.Test.YtbjkfnnabnacfaaLOrphanTornM5
namespace Go.Proofs.Ytbjkfnnabnacfaa
section
set_option linter.unusedVariables false
set_option linter.unusedSimpArgs false
set_option maxRecDepth 4000
theorem fnOk51 : fnOk Try.prog 51 = true := by kernel_rfl
theorem fnOk55 : fnOk Try.prog 55 = true := by kernel_rfl
theorem fnOk56 : fnOk Try.prog 56 = true := by kernel_rfl
theorem fnOk60 : fnOk Try.prog 60 = true := by kernel_rfl
theorem fnOk9 : fnOk Try.prog 9 = true := by kernel_rfl
theorem fnOk91 : fnOk Try.prog 91 = true := by kernel_rfl
theorem fnOk92 : fnOk Try.prog 92 = true := by kernel_rfl
theorem fnOk93 : fnOk Try.prog 93 = true := by kernel_rfl
theorem tar80 : tar Try.prog 80 = some (3, 1) := by kernel_rfl
theorem tia80 : tia Try.prog 80 = some (3, 3, 1) := by kernel_rfl
theorem tk24 : tk Try.prog 24 = some (some 3) := by kernel_rfl
theorem tsl41 : tsl Try.prog 41 = some (24, 3, 40) := by kernel_rfl
theorem tst24 : tst Try.prog 24 = some [(0, 1), (1, 1), (2, 1)] := by kernel_rfl
theorem tz24 : tz Try.prog 24 = some [.int .i64 0, .int .i64 0, .slice none 0 0] := by kernel_rfl
theorem tz80 : tz Try.prog 80 = some [.int .i64 0, .int .i64 0, .int .i64 0] := by kernel_rfl
theorem tk22 : tk Try.prog 22 = some none := by kernel_rfl
theorem sectCheck_ok (W : World) {v0 : List Value} {d0 : DSection} (h0 : Rd TSection (wm W) v0 d0) : CallR Try.prog 9 [.agg v0.toArray] W (mnil) (fun v m' => v = .int .i64 (sectCheck d0)) := by
  obtain ⟨p0_A2, p0_c2, rfl, p0_0, p0_1, p0_2⟩ := open_Section (x0 := d0.1) (x1 := d0.2.1) (x2 := d0.2.2) h0
  simp only [inK] at p0_0
  simp only [inK] at p0_1
  have p0_r2 := Rd.room p0_2
  refine CallR.ofA (n := 45) Try.func9 rfl rfl rfl ?_
  refine VC.rs ?_
  refine VO.box (cs := [Value.int .i64 (d0.1), Value.int .i64 (d0.2.1), Value.slice p0_A2 (d0.2.2.length) (p0_c2)]) 102 rfl rfl rfl (fun g1 => ?_)
  refine VO.as ?_
  refine VO.k3 0 1 2 ?_
  refine VC.seq ?_
  refine VC.rs ?_
  refine VO.y rfl (.fa rfl tst24 rfl) ?_
  refine VO.y rfl (.ld1 102 rfl tk3 rfl (cellsAt_one rfl rfl)) ?_
  refine VO.y rfl (.lss rfl rfl) ?_
  refine VO.mv ?_
  refine VO.dec (t := 7) rfl (fun hc3 => ?_) (fun hc3 => ?_)
  · -- T
    refine VO.gN ?_
    refine VO.gN ?_
    refine VO.gN ?_
    refine VO.y rfl (.pT rfl rfl) ?_
    refine VO.mv ?_
    refine VO.gN ?_
    refine VO.gN ?_
    refine VO.gN ?_
    refine VO.y rfl (.pT rfl rfl) ?_
    refine VO.mv ?_
    refine VO.gN ?_
    refine VO.gN ?_
    refine VO.gN ?_
    refine VO.gN ?_
    refine VO.y rfl (.pT rfl rfl) ?_
    refine VO.k4 0 1 2 22 ?_
    refine VC.condT rfl ?_
    refine VC.rs ?_
    refine VO.as ?_
    refine VO.keep [102, 0] [(102, mone g1 (.cells [Value.int .i64 (d0.1), Value.int .i64 (d0.2.1), Value.slice p0_A2 (d0.2.2.length) (p0_c2)].toArray 24 (0, 0))), (0, wm W)] (by kernel_rfl) ?_
    refine VO.k4 0 1 2 22 ?_
    refine VC.ret ?_
    refine outR ?_
    refine ⟨_, _, res_run (rs := [.tmp 2]) rfl (.tmp rfl .nil), fun W_ hI => out_of (l := []) hI [] rfl rfl (mle_refl _) (fun hS_ => ?_)⟩
    dsimp only [packV]
    all_goals (first | rfl | (congr 1; first | exact (sect_bad1 (by omega)).symm | exact (sect_bad2 (by omega) (by omega) (by omega) (by omega) (by first | assumption | exact fol_ne (by assumption) | exact fol_eq (by assumption))).symm | exact (sect_bad3 (by omega) (by omega) (by omega) (by omega) (by first | assumption | exact fol_ne (by assumption) | exact fol_eq (by assumption)) ‹_[_]? = some _› (by omega) (by omega)).symm | exact (sect_good (by omega) (by omega) (by omega) (by omega) (by first | assumption | exact fol_ne (by assumption) | exact fol_eq (by assumption)) ‹_[_]? = some _› (by omega) (by omega)).symm))
  · -- F
    refine VO.gy rfl ⟨_, rfl, rfl⟩ (.fa rfl tst24 rfl) ?_
    refine VO.gy rfl ⟨_, rfl, rfl⟩ (.ld1 102 rfl tk3 rfl (cellsAt_one rfl rfl)) ?_
    refine VO.gy rfl ⟨_, rfl, rfl⟩ (.gtr rfl rfl) ?_
    refine VO.y rfl (.pF rfl rfl) ?_
    refine VO.mv ?_
    refine VO.dec (t := 12) rfl (fun hc4 => ?_) (fun hc4 => ?_)
    · -- FT
      refine VO.gN ?_
      refine VO.gN ?_
      refine VO.gN ?_
      refine VO.y rfl (.pT rfl rfl) ?_
      refine VO.mv ?_
      refine VO.gN ?_
      refine VO.gN ?_
      refine VO.gN ?_
      refine VO.gN ?_
      refine VO.y rfl (.pT rfl rfl) ?_
      refine VO.k4 0 1 2 22 ?_
      refine VC.condT rfl ?_
      refine VC.rs ?_
      refine VO.as ?_
      refine VO.keep [102, 0] [(102, mone g1 (.cells [Value.int .i64 (d0.1), Value.int .i64 (d0.2.1), Value.slice p0_A2 (d0.2.2.length) (p0_c2)].toArray 24 (0, 0))), (0, wm W)] (by kernel_rfl) ?_
      refine VO.k4 0 1 2 22 ?_
      refine VC.ret ?_
      refine outR ?_
      refine ⟨_, _, res_run (rs := [.tmp 2]) rfl (.tmp rfl .nil), fun W_ hI => out_of (l := []) hI [] rfl rfl (mle_refl _) (fun hS_ => ?_)⟩
      dsimp only [packV]
      all_goals (first | rfl | (congr 1; first | exact (sect_bad1 (by omega)).symm | exact (sect_bad2 (by omega) (by omega) (by omega) (by omega) (by first | assumption | exact fol_ne (by assumption) | exact fol_eq (by assumption))).symm | exact (sect_bad3 (by omega) (by omega) (by omega) (by omega) (by first | assumption | exact fol_ne (by assumption) | exact fol_eq (by assumption)) ‹_[_]? = some _› (by omega) (by omega)).symm | exact (sect_good (by omega) (by omega) (by omega) (by omega) (by first | assumption | exact fol_ne (by assumption) | exact fol_eq (by assumption)) ‹_[_]? = some _› (by omega) (by omega)).symm))
    · -- FF
      refine VO.gy rfl ⟨_, rfl, rfl⟩ (.fa rfl tst24 rfl) ?_
      refine VO.gy rfl ⟨_, rfl, rfl⟩ (.ld1 102 rfl tk3 rfl (cellsAt_one rfl rfl)) ?_
      refine VO.gy rfl ⟨_, rfl, rfl⟩ (.lss rfl rfl) ?_
      refine VO.y rfl (.pF rfl rfl) ?_
      refine VO.mv ?_
      refine VO.dec (t := 17) rfl (fun hc5 => ?_) (fun hc5 => ?_)
      · -- FFT
        refine VO.gN ?_
        refine VO.gN ?_
        refine VO.gN ?_
        refine VO.gN ?_
        refine VO.y rfl (.pT rfl rfl) ?_
        refine VO.k4 0 1 2 22 ?_
        refine VC.condT rfl ?_
        refine VC.rs ?_
        refine VO.as ?_
        refine VO.keep [102, 0] [(102, mone g1 (.cells [Value.int .i64 (d0.1), Value.int .i64 (d0.2.1), Value.slice p0_A2 (d0.2.2.length) (p0_c2)].toArray 24 (0, 0))), (0, wm W)] (by kernel_rfl) ?_
        refine VO.k4 0 1 2 22 ?_
        refine VC.ret ?_
        refine outR ?_
        refine ⟨_, _, res_run (rs := [.tmp 2]) rfl (.tmp rfl .nil), fun W_ hI => out_of (l := []) hI [] rfl rfl (mle_refl _) (fun hS_ => ?_)⟩
        dsimp only [packV]
        all_goals (first | rfl | (congr 1; first | exact (sect_bad1 (by omega)).symm | exact (sect_bad2 (by omega) (by omega) (by omega) (by omega) (by first | assumption | exact fol_ne (by assumption) | exact fol_eq (by assumption))).symm | exact (sect_bad3 (by omega) (by omega) (by omega) (by omega) (by first | assumption | exact fol_ne (by assumption) | exact fol_eq (by assumption)) ‹_[_]? = some _› (by omega) (by omega)).symm | exact (sect_good (by omega) (by omega) (by omega) (by omega) (by first | assumption | exact fol_ne (by assumption) | exact fol_eq (by assumption)) ‹_[_]? = some _› (by omega) (by omega)).symm))
      · -- FFF
        refine VO.gy rfl ⟨_, rfl, rfl⟩ (.fa rfl tst24 rfl) ?_
        refine VO.gy rfl ⟨_, rfl, rfl⟩ (.ld1 102 rfl tk22 rfl (cellsAt_one rfl rfl)) ?_
        refine VO.gy rfl ⟨_, rfl, rfl⟩ (.lenS rfl tsl22) ?_
        refine VO.gy rfl ⟨_, rfl, rfl⟩ (.eql rfl rfl) ?_
        refine VO.y rfl (.pF rfl rfl) ?_
        refine VO.k4 0 1 2 22 ?_
        refine VC.cond rfl (fun hc6 => ?_) (fun hc6 => ?_)
        · -- FFFT
          refine VC.rs ?_
          refine VO.as ?_
          refine VO.keep [102, 0] [(102, mone g1 (.cells [Value.int .i64 (d0.1), Value.int .i64 (d0.2.1), Value.slice p0_A2 (d0.2.2.length) (p0_c2)].toArray 24 (0, 0))), (0, wm W)] (by kernel_rfl) ?_
          refine VO.k4 0 1 2 22 ?_
          refine VC.ret ?_
          refine outR ?_
          refine ⟨_, _, res_run (rs := [.tmp 2]) rfl (.tmp rfl .nil), fun W_ hI => out_of (l := []) hI [] rfl rfl (mle_refl _) (fun hS_ => ?_)⟩
          dsimp only [packV]
          all_goals (first | rfl | (congr 1; first | exact (sect_bad1 (by omega)).symm | exact (sect_bad2 (by omega) (by omega) (by omega) (by omega) (by first | assumption | exact fol_ne (by assumption) | exact fol_eq (by assumption))).symm | exact (sect_bad3 (by omega) (by omega) (by omega) (by omega) (by first | assumption | exact fol_ne (by assumption) | exact fol_eq (by assumption)) ‹_[_]? = some _› (by omega) (by omega)).symm | exact (sect_good (by omega) (by omega) (by omega) (by omega) (by first | assumption | exact fol_ne (by assumption) | exact fol_eq (by assumption)) ‹_[_]? = some _› (by omega) (by omega)).symm))
        · -- FFFF
          refine VC.skip ?_
          refine outN ?_
          refine VC.seq ?_
          refine VC.rs ?_
          refine VO.y rfl (.fa rfl tst24 rfl) ?_
          refine VO.y rfl (.ld1 102 rfl tk3 rfl (cellsAt_one rfl rfl)) ?_
          refine VO.y rfl (.fa rfl tst24 rfl) ?_
          refine VO.y rfl (.ld1 102 rfl tk22 rfl (cellsAt_one rfl rfl)) ?_
          refine VO.callN 107 rfl fnOk51 rfl (fun W hW => follows_ok W 1 bdk d0.2.1 bdk (Rd.mono p0_2 (hW.at (i := 0) rfl))) (fun v7 m7 hv7 => ?_)
          obtain ⟨s7_0, rfl, f7_0⟩ := hv7
          obtain ⟨rfl, q7_0_0, q7_0_1⟩ := open_Fault (x0 := (cFollows 1 d0.2.1 d0.2.2).1) (x1 := (cFollows 1 d0.2.1 d0.2.2).2) (f7_0.rd (mle_refl _))
          simp only [inK] at q7_0_0
          simp only [inK] at q7_0_1
          refine VO.alloc 109 rfl tz75 (fun g8 => ?_)
          refine VO.store (k := 2) (c' := [Value.int .i64 ((cFollows 1 d0.2.1 d0.2.2).1), Value.int .i64 ((cFollows 1 d0.2.1 d0.2.2).2)]) 109 rfl rfl (.inl tk75) rfl rfl rfl rfl rfl ?_
          refine VO.keep [109, 102, 0] [(109, mone g8 (.cells [Value.int .i64 ((cFollows 1 d0.2.1 d0.2.2).1), Value.int .i64 ((cFollows 1 d0.2.1 d0.2.2).2)].toArray 75 (0, 0))), (102, mone g1 (.cells [Value.int .i64 (d0.1), Value.int .i64 (d0.2.1), Value.slice p0_A2 (d0.2.2.length) (p0_c2)].toArray 24 (0, 0))), (0, wm W)] (by kernel_rfl) ?_
          refine VO.k5 0 1 2 3 22 ?_
          refine VC.rs ?_
          refine VO.y rfl (.fa rfl tst75 rfl) ?_
          refine VO.y rfl (.ld1 109 rfl tk28 rfl (cellsAt_one rfl rfl)) ?_
          refine VO.y rfl (.neq rfl rfl) ?_
          refine VO.k6 0 1 2 3 22 30 ?_
          refine VC.cond rfl (fun hc10 => ?_) (fun hc10 => ?_)
          · -- FFFFT
            refine VC.rs ?_
            refine VO.y rfl (.fa rfl tst75 rfl) ?_
            refine VO.y rfl (.ld1 109 rfl tk28 rfl (cellsAt_one rfl rfl)) ?_
            refine VO.as ?_
            refine VO.k6 0 1 2 3 22 30 ?_
            refine VC.ret ?_
            refine outR ?_
            refine ⟨_, _, res_run (rs := [.tmp 2]) rfl (.tmp rfl .nil), fun W_ hI => out_of (l := []) hI [] rfl rfl (mle_refl _) (fun hS_ => ?_)⟩
            dsimp only [packV]
            all_goals (first | rfl | (congr 1; first | exact (sect_bad1 (by omega)).symm | exact (sect_bad2 (by omega) (by omega) (by omega) (by omega) (by first | assumption | exact fol_ne (by assumption) | exact fol_eq (by assumption))).symm | exact (sect_bad3 (by omega) (by omega) (by omega) (by omega) (by first | assumption | exact fol_ne (by assumption) | exact fol_eq (by assumption)) ‹_[_]? = some _› (by omega) (by omega)).symm | exact (sect_good (by omega) (by omega) (by omega) (by omega) (by first | assumption | exact fol_ne (by assumption) | exact fol_eq (by assumption)) ‹_[_]? = some _› (by omega) (by omega)).symm))
          · -- FFFFF
            refine VC.skip ?_
            refine outN ?_
            refine VC.seq ?_
            refine VC.seq ?_
            refine VC.regD _ 11 [(0, true), (1, true), (2, true), (3, true), (4, true), (5, true), (6, true), (7, true), (8, true), (9, true), (10, true)] follows (by kernel_rfl) (fun _ h => h.sub [109, 102, 0]) ?_
            refine VD.y rfl rfl (.inl rfl) (.fa rfl tst24 rfl) ?_
            refine VD.y rfl rfl (.inl rfl) (.ld1 102 rfl tk22 rfl (cellsAt_one rfl rfl)) ?_
            refine VD.y rfl rfl (.inl rfl) (.fa rfl tst24 rfl) ?_
            refine VD.y rfl rfl (.inl rfl) (.ld1 102 rfl tk22 rfl (cellsAt_one rfl rfl)) ?_
            refine VD.y rfl rfl (.inl rfl) (.lenS rfl tsl22) ?_
            refine VD.y rfl rfl (.inl rfl) (.sub rfl rfl rfl ⟨bd, bd⟩) ?_
            obtain ⟨x11, hx11⟩ : ∃ z_, (d0.2.2)[(((d0.2.2.length : Nat) : Int) - 1).toNat]? = some z_ := ⟨_, List.getElem?_eq_getElem bd⟩
            obtain ⟨gg11, oo11, ec11, ea11, hce11, hre11⟩ := p0_2.elem hx11
            cases ea11
            obtain ⟨q11_A2, q11_c2, rfl, q11_0, q11_1, q11_2⟩ := open_Commit (x0 := x11.1) (x1 := x11.2.1) (x2 := x11.2.2) hre11
            simp only [inK] at q11_0
            simp only [inK] at q11_1
            have q11_r2 := Rd.room q11_2
            refine VD.y rfl rfl (.inl rfl) (.ixI ((((d0.2.2.length : Nat) : Int) - 1).toNat) rfl rfl tsl22 bd bd) ?_
            refine VD.y rfl rfl (.inl rfl) (.fa rfl tst32 rfl) ?_
            refine VD.y rfl rfl (.inl rfl) (.ld1 0 rfl tk3 rfl (hce11.at1 (j := 0) rfl)) ?_
            refine VD.y rfl rfl (.inl rfl) (.fa rfl tst24 rfl) ?_
            refine VD.y rfl rfl (.inl rfl) (.ld1 102 rfl tk3 rfl (cellsAt_one rfl rfl)) ?_
            refine VD.nil rfl ?_ rfl
            refine VO.y rfl (.geq rfl rfl) ?_
            refine VO.k7 0 1 2 3 22 30 44 ?_
            refine outN ?_
            refine VC.cond rfl (fun hc12 => ?_) (fun hc12 => ?_)
            · -- FFFFFT
              refine VC.rs ?_
              refine VO.as ?_
              refine VO.keep [109, 102, 0] [(109, mone g8 (.cells [Value.int .i64 ((cFollows 1 d0.2.1 d0.2.2).1), Value.int .i64 ((cFollows 1 d0.2.1 d0.2.2).2)].toArray 75 (0, 0))), (102, mone g1 (.cells [Value.int .i64 (d0.1), Value.int .i64 (d0.2.1), Value.slice (some ⟨gg11, oo11, none⟩) (d0.2.2.length) (p0_c2)].toArray 24 (0, 0))), (0, wm W)] (by kernel_rfl) ?_
              refine VO.k7 0 1 2 3 22 30 44 ?_
              refine VC.ret ?_
              refine outR ?_
              refine ⟨_, _, res_run (rs := [.tmp 2]) rfl (.tmp rfl .nil), fun W_ hI => out_of (l := []) hI [] rfl rfl (mle_refl _) (fun hS_ => ?_)⟩
              dsimp only [packV]
              all_goals (first | rfl | (congr 1; first | exact (sect_bad1 (by omega)).symm | exact (sect_bad2 (by omega) (by omega) (by omega) (by omega) (by first | assumption | exact fol_ne (by assumption) | exact fol_eq (by assumption))).symm | exact (sect_bad3 (by omega) (by omega) (by omega) (by omega) (by first | assumption | exact fol_ne (by assumption) | exact fol_eq (by assumption)) ‹_[_]? = some _› (by omega) (by omega)).symm | exact (sect_good (by omega) (by omega) (by omega) (by omega) (by first | assumption | exact fol_ne (by assumption) | exact fol_eq (by assumption)) ‹_[_]? = some _› (by omega) (by omega)).symm))
            · -- FFFFFF
              refine VC.skip ?_
              refine outN ?_
              refine VC.rs ?_
              refine VO.as ?_
              refine VO.keep [109, 102, 0] [(109, mone g8 (.cells [Value.int .i64 ((cFollows 1 d0.2.1 d0.2.2).1), Value.int .i64 ((cFollows 1 d0.2.1 d0.2.2).2)].toArray 75 (0, 0))), (102, mone g1 (.cells [Value.int .i64 (d0.1), Value.int .i64 (d0.2.1), Value.slice (some ⟨gg11, oo11, none⟩) (d0.2.2.length) (p0_c2)].toArray 24 (0, 0))), (0, wm W)] (by kernel_rfl) ?_
              refine VO.k7 0 1 2 3 22 30 44 ?_
              refine VC.ret ?_
              refine ⟨_, _, res_run (rs := [.tmp 2]) rfl (.tmp rfl .nil), fun W_ hI => out_of (l := []) hI [] rfl rfl (mle_refl _) (fun hS_ => ?_)⟩
              dsimp only [packV]
              all_goals (first | rfl | (congr 1; first | exact (sect_bad1 (by omega)).symm | exact (sect_bad2 (by omega) (by omega) (by omega) (by omega) (by first | assumption | exact fol_ne (by assumption) | exact fol_eq (by assumption))).symm | exact (sect_bad3 (by omega) (by omega) (by omega) (by omega) (by first | assumption | exact fol_ne (by assumption) | exact fol_eq (by assumption)) ‹_[_]? = some _› (by omega) (by omega)).symm | exact (sect_good (by omega) (by omega) (by omega) (by omega) (by first | assumption | exact fol_ne (by assumption) | exact fol_eq (by assumption)) ‹_[_]? = some _› (by omega) (by omega)).symm))
theorem sectEncode_ok (W : World) {v0 : List Value} {d0 : DSection} (h0 : Rd TSection (wm W) v0 d0) : CallR Try.prog 16 [.agg v0.toArray] W (mnil) (fun v m' => ∃ (s0 : Value), v = .tuple #[s0, .int .i64 ((sectEncode d0).2)] ∧ Ow (.sl .byte) m' [s0] ((sectEncode d0).1)) := by
  obtain ⟨p0_A2, p0_c2, rfl, p0_0, p0_1, p0_2⟩ := open_Section (x0 := d0.1) (x1 := d0.2.1) (x2 := d0.2.2) h0
  simp only [inK] at p0_0
  simp only [inK] at p0_1
  have p0_r2 := Rd.room p0_2
  refine CallR.ofA (n := 64) Try.func16 rfl rfl rfl ?_
  refine VC.rs ?_
  refine VO.box (cs := [Value.int .i64 (d0.1), Value.int .i64 (d0.2.1), Value.slice p0_A2 (d0.2.2.length) (p0_c2)]) 102 rfl rfl rfl (fun g1 => ?_)
  refine VO.as ?_
  refine VO.as ?_
  refine VO.k4 0 1 2 3 ?_
  refine VC.seq ?_
  refine VC.rs ?_
  refine VO.y rfl (.ldA 102 rfl tk24 rfl (cellsAt_one rfl rfl)) ?_
  refine VO.callN 103 rfl fnOk9 rfl (fun W hW => sectCheck_ok W (Rd.mono h0 (hW.at (i := 0) rfl))) (fun v3 m3 hv3 => ?_)
  subst hv3
  have hfa4 := sectCheck_range d0
  refine VO.as ?_
  refine VO.k5 0 1 2 3 4 ?_
  refine VC.rs ?_
  refine VO.mv ?_
  refine VO.y rfl (.neq rfl rfl) ?_
  refine VO.keep [102, 0] [(102, mone g1 (.cells [Value.int .i64 (d0.1), Value.int .i64 (d0.2.1), Value.slice p0_A2 (d0.2.2.length) (p0_c2)].toArray 24 (0, 0))), (0, wm W)] (by kernel_rfl) ?_
  refine VO.k6 0 1 2 3 4 17 ?_
  refine VC.cond rfl (fun hc5 => ?_) (fun hc5 => ?_)
  · -- T
    refine VC.rs ?_
    refine VO.mv ?_
    refine VO.as ?_
    refine VO.as ?_
    refine VO.k6 0 1 2 3 4 17 ?_
    refine VC.ret ?_
    refine outR ?_
    refine ⟨_, _, res_run (rs := [.tmp 2, .tmp 3]) rfl (.tmp rfl (.tmp rfl .nil)), fun W_ hI => out_of (l := []) hI [] rfl rfl (mle_refl _) (fun hS_ => ?_)⟩
    dsimp only [packV]
    have he0 : ((sectEncode d0).1 : Ty.Den (.sl .byte)) = [] := by first | rfl | (first | (rw [sectEncode_bad (by assumption)] <;> rfl) | (rw [sectEncode_good (by assumption)] <;> first | rfl | (dsimp only; rw [← hb, List.drop_of_length_le (by omega)]; simp [cFrames]; done) | (dsimp only; rw [he]; done)))
    refine ⟨Value.slice none (0) (0), ?_, ?_⟩
    rotate_left
    · rw [he0]; exact (Ow.nil _ _)
    all_goals (first | rfl | (first | (rw [sectEncode_bad (by assumption)] <;> rfl) | (rw [sectEncode_good (by assumption)] <;> first | rfl | (dsimp only; rw [← hb, List.drop_of_length_le (by omega)]; simp [cFrames]; done) | (dsimp only; rw [he]; done))))
  · -- F
    refine VC.skip ?_
    refine outN ?_
    refine VC.rs ?_
    refine VO.as ?_
    refine VO.k7 0 1 2 3 4 5 17 ?_
    refine VC.seq ?_
    refine VC.rs ?_
    refine VO.y rfl (.fa rfl tst24 rfl) ?_
    refine VO.y rfl (.ld1 102 rfl tk3 rfl (cellsAt_one rfl rfl)) ?_
    refine VO.y rfl (.fa rfl tst24 rfl) ?_
    refine VO.y rfl (.ld1 102 rfl tk3 rfl (cellsAt_one rfl rfl)) ?_
    refine VO.y rfl (.fa rfl tst24 rfl) ?_
    refine VO.y rfl (.ld1 102 rfl tk22 rfl (cellsAt_one rfl rfl)) ?_
    refine VO.y rfl (.lenS rfl tsl22) ?_
    refine VO.y rfl (.bar (cs := [Value.int .i64 (d0.1), Value.int .i64 (d0.2.1), Value.int .i64 (((d0.2.2.length : Nat) : Int))]) rfl tar80 tz80 rfl) ?_
    refine VO.mv ?_
    refine VO.k9 0 1 2 3 4 5 17 26 27 ?_
    refine VC.block ?_
    refine VC.rounds 5 (VRounds.step ?_)
    refine VC.rs ?_
    refine VO.y rfl (.lss rfl rfl) ?_
    refine VO.keep [102, 0] [(102, mone g1 (.cells [Value.int .i64 (d0.1), Value.int .i64 (d0.2.1), Value.slice p0_A2 (d0.2.2.length) (p0_c2)].toArray 24 (0, 0))), (0, wm W)] (by kernel_rfl) ?_
    refine VO.k10 0 1 2 3 4 5 17 26 27 28 ?_
    refine VC.seq ?_
    refine VC.condKT rfl (decide_eq_true (by decide)) ?_
    refine VC.skip ?_
    refine outN ?_
    refine VC.seq ?_
    refine VC.block ?_
    refine VC.rs ?_
    refine VO.y rfl (.ix1V rfl rfl tia80 tk3 rfl rfl rfl) ?_
    refine VO.as ?_
    refine VO.k11 0 1 2 3 4 5 7 17 26 27 28 ?_
    refine VC.reg ?_
    refine VO.mv ?_
    refine VO.mv ?_
    refine VO.y rfl (.cvI (c := ((d0.1).toNat : Int)) rfl ⟨_, Try.underlying3⟩ Try.underlying82 (by rw [IntWalk.u64_in _ (by first | omega | (simp only [List.length_append, List.length_nil, List.length_cons, List.length_take, List.length_drop] at *; omega) | (have h_ := sect_ok (Decidable.not_not.1 ‹¬ ¬ sectCheck d0 = 0›); have h2_ := sect_fork (Decidable.not_not.1 ‹¬ ¬ sectCheck d0 = 0›); omega) | (have h_ := sect_ok (Decidable.not_not.1 ‹¬ ¬ sectCheck d0 = 0›); have h2_ := sect_fork (Decidable.not_not.1 ‹¬ ¬ sectCheck d0 = 0›); simp only [List.length_append, List.length_nil, List.length_cons, List.length_take, List.length_drop] at *; omega))]; first | omega | (first | omega | (simp only [List.length_append, List.length_nil, List.length_cons, List.length_take, List.length_drop] at *; omega) | (have h_ := sect_ok (Decidable.not_not.1 ‹¬ ¬ sectCheck d0 = 0›); have h2_ := sect_fork (Decidable.not_not.1 ‹¬ ¬ sectCheck d0 = 0›); omega) | (have h_ := sect_ok (Decidable.not_not.1 ‹¬ ¬ sectCheck d0 = 0›); have h2_ := sect_fork (Decidable.not_not.1 ‹¬ ¬ sectCheck d0 = 0›); simp only [List.length_append, List.length_nil, List.length_cons, List.length_take, List.length_drop] at *; omega)))) ?_
    refine VO.callN 106 rfl fnOk54 rfl (fun W hW => vAppend_ok W (Rd.nil _ _ none 0 (Nat.zero_le _)) ((d0.1).toNat) (by first | omega | (simp only [List.length_append, List.length_nil, List.length_cons, List.length_take, List.length_drop] at *; omega) | (have h_ := sect_ok (Decidable.not_not.1 ‹¬ ¬ sectCheck d0 = 0›); have h2_ := sect_fork (Decidable.not_not.1 ‹¬ ¬ sectCheck d0 = 0›); omega) | (have h_ := sect_ok (Decidable.not_not.1 ‹¬ ¬ sectCheck d0 = 0›); have h2_ := sect_fork (Decidable.not_not.1 ‹¬ ¬ sectCheck d0 = 0›); simp only [List.length_append, List.length_nil, List.length_cons, List.length_take, List.length_drop] at *; omega)) (by first | omega | (simp only [List.length_append, List.length_nil, List.length_cons, List.length_take, List.length_drop] at *; omega) | (have h_ := sect_ok (Decidable.not_not.1 ‹¬ ¬ sectCheck d0 = 0›); have h2_ := sect_fork (Decidable.not_not.1 ‹¬ ¬ sectCheck d0 = 0›); omega) | (have h_ := sect_ok (Decidable.not_not.1 ‹¬ ¬ sectCheck d0 = 0›); have h2_ := sect_fork (Decidable.not_not.1 ‹¬ ¬ sectCheck d0 = 0›); simp only [List.length_append, List.length_nil, List.length_cons, List.length_take, List.length_drop] at *; omega))) (fun v6 m6 hv6 => ?_)
    obtain ⟨s6_0, rfl, f6_0⟩ := hv6
    have hfa7 := venc_len (x := ((d0.1).toNat)) (by first | omega | exact or64 (by assumption) _)
    simp only [List.nil_append] at f6_0
    obtain ⟨A6_0, c6_0, eq6_0, l6_0, k6_0⟩ := f6_0.slice
    subst eq6_0
    simp only [maxLen] at k6_0
    refine VO.as ?_
    refine VO.k11 0 1 2 3 4 5 7 17 26 27 28 ?_
    refine outBN ?_
    refine outN ?_
    refine VC.reg ?_
    refine VO.y rfl (.add (c := ((1 : Nat) : Int)) rfl rfl (by omega) ⟨by first | omega | (simp only [List.length_append, List.length_nil, List.length_cons, List.length_take, List.length_drop] at *; omega) | (have h_ := sect_ok (Decidable.not_not.1 ‹¬ ¬ sectCheck d0 = 0›); have h2_ := sect_fork (Decidable.not_not.1 ‹¬ ¬ sectCheck d0 = 0›); omega) | (have h_ := sect_ok (Decidable.not_not.1 ‹¬ ¬ sectCheck d0 = 0›); have h2_ := sect_fork (Decidable.not_not.1 ‹¬ ¬ sectCheck d0 = 0›); simp only [List.length_append, List.length_nil, List.length_cons, List.length_take, List.length_drop] at *; omega), by first | omega | (simp only [List.length_append, List.length_nil, List.length_cons, List.length_take, List.length_drop] at *; omega) | (have h_ := sect_ok (Decidable.not_not.1 ‹¬ ¬ sectCheck d0 = 0›); have h2_ := sect_fork (Decidable.not_not.1 ‹¬ ¬ sectCheck d0 = 0›); omega) | (have h_ := sect_ok (Decidable.not_not.1 ‹¬ ¬ sectCheck d0 = 0›); have h2_ := sect_fork (Decidable.not_not.1 ‹¬ ¬ sectCheck d0 = 0›); simp only [List.length_append, List.length_nil, List.length_cons, List.length_take, List.length_drop] at *; omega)⟩) ?_
    refine VO.mv ?_
    refine VO.keep [106, 102, 0] [(106, m6), (102, mone g1 (.cells [Value.int .i64 (d0.1), Value.int .i64 (d0.2.1), Value.slice p0_A2 (d0.2.2.length) (p0_c2)].toArray 24 (0, 0))), (0, wm W)] (by kernel_rfl) ?_
    refine VO.k11 0 1 2 3 4 5 7 17 26 27 28 ?_
    refine outN (VRounds.step ?_)
    refine VC.rs ?_
    refine VO.y rfl (.lss rfl rfl) ?_
    refine VO.k11 0 1 2 3 4 5 7 17 26 27 28 ?_
    refine VC.seq ?_
    refine VC.condKT rfl (decide_eq_true (by decide)) ?_
    refine VC.skip ?_
    refine outN ?_
    refine VC.seq ?_
    refine VC.block ?_
    refine VC.rs ?_
    refine VO.y rfl (.ix1V rfl rfl tia80 tk3 rfl rfl rfl) ?_
    refine VO.as ?_
    refine VO.k11 0 1 2 3 4 5 7 17 26 27 28 ?_
    refine VC.reg ?_
    refine VO.mv ?_
    refine VO.mv ?_
    refine VO.y rfl (.cvI (c := ((d0.2.1).toNat : Int)) rfl ⟨_, Try.underlying3⟩ Try.underlying82 (by rw [IntWalk.u64_in _ (by first | omega | (simp only [List.length_append, List.length_nil, List.length_cons, List.length_take, List.length_drop] at *; omega) | (have h_ := sect_ok (Decidable.not_not.1 ‹¬ ¬ sectCheck d0 = 0›); have h2_ := sect_fork (Decidable.not_not.1 ‹¬ ¬ sectCheck d0 = 0›); omega) | (have h_ := sect_ok (Decidable.not_not.1 ‹¬ ¬ sectCheck d0 = 0›); have h2_ := sect_fork (Decidable.not_not.1 ‹¬ ¬ sectCheck d0 = 0›); simp only [List.length_append, List.length_nil, List.length_cons, List.length_take, List.length_drop] at *; omega))]; first | omega | (first | omega | (simp only [List.length_append, List.length_nil, List.length_cons, List.length_take, List.length_drop] at *; omega) | (have h_ := sect_ok (Decidable.not_not.1 ‹¬ ¬ sectCheck d0 = 0›); have h2_ := sect_fork (Decidable.not_not.1 ‹¬ ¬ sectCheck d0 = 0›); omega) | (have h_ := sect_ok (Decidable.not_not.1 ‹¬ ¬ sectCheck d0 = 0›); have h2_ := sect_fork (Decidable.not_not.1 ‹¬ ¬ sectCheck d0 = 0›); simp only [List.length_append, List.length_nil, List.length_cons, List.length_take, List.length_drop] at *; omega)))) ?_
    refine VO.callN 108 rfl fnOk54 rfl (fun W hW => vAppend_ok W (OwnL.rd (Ow.ownl f6_0 rfl mnil) (hW.at (i := 106) rfl) (mle_nil _)) ((d0.2.1).toNat) (by first | omega | (simp only [List.length_append, List.length_nil, List.length_cons, List.length_take, List.length_drop] at *; omega) | (have h_ := sect_ok (Decidable.not_not.1 ‹¬ ¬ sectCheck d0 = 0›); have h2_ := sect_fork (Decidable.not_not.1 ‹¬ ¬ sectCheck d0 = 0›); omega) | (have h_ := sect_ok (Decidable.not_not.1 ‹¬ ¬ sectCheck d0 = 0›); have h2_ := sect_fork (Decidable.not_not.1 ‹¬ ¬ sectCheck d0 = 0›); simp only [List.length_append, List.length_nil, List.length_cons, List.length_take, List.length_drop] at *; omega)) (by first | omega | (simp only [List.length_append, List.length_nil, List.length_cons, List.length_take, List.length_drop] at *; omega) | (have h_ := sect_ok (Decidable.not_not.1 ‹¬ ¬ sectCheck d0 = 0›); have h2_ := sect_fork (Decidable.not_not.1 ‹¬ ¬ sectCheck d0 = 0›); omega) | (have h_ := sect_ok (Decidable.not_not.1 ‹¬ ¬ sectCheck d0 = 0›); have h2_ := sect_fork (Decidable.not_not.1 ‹¬ ¬ sectCheck d0 = 0›); simp only [List.length_append, List.length_nil, List.length_cons, List.length_take, List.length_drop] at *; omega))) (fun v8 m8 hv8 => ?_)
    obtain ⟨s8_0, rfl, f8_0⟩ := hv8
    have hfa9 := venc_len (x := ((d0.2.1).toNat)) (by first | omega | exact or64 (by assumption) _)
    obtain ⟨A8_0, c8_0, eq8_0, l8_0, k8_0⟩ := f8_0.slice
    subst eq8_0
    simp only [maxLen] at k8_0
    refine VO.as ?_
    refine VO.keep [108, 102, 0] [(108, m8), (102, mone g1 (.cells [Value.int .i64 (d0.1), Value.int .i64 (d0.2.1), Value.slice p0_A2 (d0.2.2.length) (p0_c2)].toArray 24 (0, 0))), (0, wm W)] (by kernel_rfl) ?_
    refine VO.k11 0 1 2 3 4 5 7 17 26 27 28 ?_
    refine outBN ?_
    refine outN ?_
    refine VC.reg ?_
    refine VO.y rfl (.add (c := ((2 : Nat) : Int)) rfl rfl (by omega) ⟨by first | omega | (simp only [List.length_append, List.length_nil, List.length_cons, List.length_take, List.length_drop] at *; omega) | (have h_ := sect_ok (Decidable.not_not.1 ‹¬ ¬ sectCheck d0 = 0›); have h2_ := sect_fork (Decidable.not_not.1 ‹¬ ¬ sectCheck d0 = 0›); omega) | (have h_ := sect_ok (Decidable.not_not.1 ‹¬ ¬ sectCheck d0 = 0›); have h2_ := sect_fork (Decidable.not_not.1 ‹¬ ¬ sectCheck d0 = 0›); simp only [List.length_append, List.length_nil, List.length_cons, List.length_take, List.length_drop] at *; omega), by first | omega | (simp only [List.length_append, List.length_nil, List.length_cons, List.length_take, List.length_drop] at *; omega) | (have h_ := sect_ok (Decidable.not_not.1 ‹¬ ¬ sectCheck d0 = 0›); have h2_ := sect_fork (Decidable.not_not.1 ‹¬ ¬ sectCheck d0 = 0›); omega) | (have h_ := sect_ok (Decidable.not_not.1 ‹¬ ¬ sectCheck d0 = 0›); have h2_ := sect_fork (Decidable.not_not.1 ‹¬ ¬ sectCheck d0 = 0›); simp only [List.length_append, List.length_nil, List.length_cons, List.length_take, List.length_drop] at *; omega)⟩) ?_
    refine VO.mv ?_
    refine VO.k11 0 1 2 3 4 5 7 17 26 27 28 ?_
    refine outN (VRounds.step ?_)
    refine VC.rs ?_
    refine VO.y rfl (.lss rfl rfl) ?_
    refine VO.k11 0 1 2 3 4 5 7 17 26 27 28 ?_
    refine VC.seq ?_
    refine VC.condKT rfl (decide_eq_true (by decide)) ?_
    refine VC.skip ?_
    refine outN ?_
    refine VC.seq ?_
    refine VC.block ?_
    refine VC.rs ?_
    refine VO.y rfl (.ix1V rfl rfl tia80 tk3 rfl rfl rfl) ?_
    refine VO.as ?_
    refine VO.keep [108, 102, 0] [(108, m8), (102, mone g1 (.cells [Value.int .i64 (d0.1), Value.int .i64 (d0.2.1), Value.slice p0_A2 (d0.2.2.length) (p0_c2)].toArray 24 (0, 0))), (0, wm W)] (by kernel_rfl) ?_
    refine VO.k11 0 1 2 3 4 5 7 17 26 27 28 ?_
    refine VC.reg ?_
    refine VO.mv ?_
    refine VO.mv ?_
    refine VO.y rfl (.cvI rfl ⟨_, Try.underlying3⟩ Try.underlying82 (IntWalk.u64_in _ (by first | omega | (simp only [List.length_append, List.length_nil, List.length_cons, List.length_take, List.length_drop] at *; omega) | (have h_ := sect_ok (Decidable.not_not.1 ‹¬ ¬ sectCheck d0 = 0›); have h2_ := sect_fork (Decidable.not_not.1 ‹¬ ¬ sectCheck d0 = 0›); omega) | (have h_ := sect_ok (Decidable.not_not.1 ‹¬ ¬ sectCheck d0 = 0›); have h2_ := sect_fork (Decidable.not_not.1 ‹¬ ¬ sectCheck d0 = 0›); simp only [List.length_append, List.length_nil, List.length_cons, List.length_take, List.length_drop] at *; omega)))) ?_
    refine VO.callN 110 rfl fnOk54 rfl (fun W hW => vAppend_ok W (OwnL.rd (Ow.ownl f8_0 rfl mnil) (hW.at (i := 108) rfl) (mle_nil _)) d0.2.2.length (by first | omega | (simp only [List.length_append, List.length_nil, List.length_cons, List.length_take, List.length_drop] at *; omega) | (have h_ := sect_ok (Decidable.not_not.1 ‹¬ ¬ sectCheck d0 = 0›); have h2_ := sect_fork (Decidable.not_not.1 ‹¬ ¬ sectCheck d0 = 0›); omega) | (have h_ := sect_ok (Decidable.not_not.1 ‹¬ ¬ sectCheck d0 = 0›); have h2_ := sect_fork (Decidable.not_not.1 ‹¬ ¬ sectCheck d0 = 0›); simp only [List.length_append, List.length_nil, List.length_cons, List.length_take, List.length_drop] at *; omega)) (by first | omega | (simp only [List.length_append, List.length_nil, List.length_cons, List.length_take, List.length_drop] at *; omega) | (have h_ := sect_ok (Decidable.not_not.1 ‹¬ ¬ sectCheck d0 = 0›); have h2_ := sect_fork (Decidable.not_not.1 ‹¬ ¬ sectCheck d0 = 0›); omega) | (have h_ := sect_ok (Decidable.not_not.1 ‹¬ ¬ sectCheck d0 = 0›); have h2_ := sect_fork (Decidable.not_not.1 ‹¬ ¬ sectCheck d0 = 0›); simp only [List.length_append, List.length_nil, List.length_cons, List.length_take, List.length_drop] at *; omega))) (fun v10 m10 hv10 => ?_)
    obtain ⟨s10_0, rfl, f10_0⟩ := hv10
    have hfa11 := venc_len (x := d0.2.2.length) (by first | omega | exact or64 (by assumption) _)
    obtain ⟨A10_0, c10_0, eq10_0, l10_0, k10_0⟩ := f10_0.slice
    subst eq10_0
    simp only [maxLen] at k10_0
    refine VO.as ?_
    refine VO.k11 0 1 2 3 4 5 7 17 26 27 28 ?_
    refine outBN ?_
    refine outN ?_
    refine VC.reg ?_
    refine VO.y rfl (.add (c := ((3 : Nat) : Int)) rfl rfl (by omega) ⟨by first | omega | (simp only [List.length_append, List.length_nil, List.length_cons, List.length_take, List.length_drop] at *; omega) | (have h_ := sect_ok (Decidable.not_not.1 ‹¬ ¬ sectCheck d0 = 0›); have h2_ := sect_fork (Decidable.not_not.1 ‹¬ ¬ sectCheck d0 = 0›); omega) | (have h_ := sect_ok (Decidable.not_not.1 ‹¬ ¬ sectCheck d0 = 0›); have h2_ := sect_fork (Decidable.not_not.1 ‹¬ ¬ sectCheck d0 = 0›); simp only [List.length_append, List.length_nil, List.length_cons, List.length_take, List.length_drop] at *; omega), by first | omega | (simp only [List.length_append, List.length_nil, List.length_cons, List.length_take, List.length_drop] at *; omega) | (have h_ := sect_ok (Decidable.not_not.1 ‹¬ ¬ sectCheck d0 = 0›); have h2_ := sect_fork (Decidable.not_not.1 ‹¬ ¬ sectCheck d0 = 0›); omega) | (have h_ := sect_ok (Decidable.not_not.1 ‹¬ ¬ sectCheck d0 = 0›); have h2_ := sect_fork (Decidable.not_not.1 ‹¬ ¬ sectCheck d0 = 0›); simp only [List.length_append, List.length_nil, List.length_cons, List.length_take, List.length_drop] at *; omega)⟩) ?_
    refine VO.mv ?_
    refine VO.k11 0 1 2 3 4 5 7 17 26 27 28 ?_
    refine outN (VRounds.step ?_)
    refine VC.rs ?_
    refine VO.y rfl (.lss rfl rfl) ?_
    refine VO.keep [110, 102, 0] [(110, m10), (102, mone g1 (.cells [Value.int .i64 (d0.1), Value.int .i64 (d0.2.1), Value.slice p0_A2 (d0.2.2.length) (p0_c2)].toArray 24 (0, 0))), (0, wm W)] (by kernel_rfl) ?_
    refine VO.k11 0 1 2 3 4 5 7 17 26 27 28 ?_
    refine VC.seq ?_
    refine VC.condKF rfl (decide_eq_false (by decide)) ?_
    refine VC.exit ?_
    refine outE ?_
    refine outE ?_
    refine outBB ?_
    refine outN ?_
    refine VC.rs ?_
    refine VO.mv ?_
    refine VO.callN 112 rfl fnOk55 rfl (fun W hW => fAppend_ok W (Rd.nil _ _ none 0 (Nat.zero_le _)) (OwnL.rd (Ow.ownl f10_0 rfl mnil) (hW.at (i := 110) rfl) (mle_nil _)) (by first | omega | (simp only [List.length_append, List.length_nil, List.length_cons, List.length_take, List.length_drop] at *; omega) | (have h_ := sect_ok (Decidable.not_not.1 ‹¬ ¬ sectCheck d0 = 0›); have h2_ := sect_fork (Decidable.not_not.1 ‹¬ ¬ sectCheck d0 = 0›); omega) | (have h_ := sect_ok (Decidable.not_not.1 ‹¬ ¬ sectCheck d0 = 0›); have h2_ := sect_fork (Decidable.not_not.1 ‹¬ ¬ sectCheck d0 = 0›); simp only [List.length_append, List.length_nil, List.length_cons, List.length_take, List.length_drop] at *; omega))) (fun v12 m12 hv12 => ?_)
    obtain ⟨s12_0, rfl, f12_0⟩ := hv12
    have hfa13 := fAppend_len [] (((venc ((d0.1).toNat)) ++ venc ((d0.2.1).toNat)) ++ venc d0.2.2.length)
    have hfa14 := fAppend_range [] (((venc ((d0.1).toNat)) ++ venc ((d0.2.1).toNat)) ++ venc d0.2.2.length)
    obtain ⟨A12_0, c12_0, eq12_0, l12_0, k12_0⟩ := f12_0.slice
    subst eq12_0
    simp only [maxLen] at k12_0
    refine VO.mv ?_
    refine VO.y rfl (.ext rfl rfl) ?_
    refine VO.y rfl (.ext rfl rfl) ?_
    refine VO.as ?_
    refine VO.as ?_
    refine VO.k13 0 1 2 3 4 5 7 8 9 17 26 27 28 ?_
    refine VC.seq ?_
    refine VC.rs ?_
    refine VO.y rfl (.fa rfl tst24 rfl) ?_
    refine VO.y rfl (.ld1 102 rfl tk22 rfl (cellsAt_one rfl rfl)) ?_
    refine VO.y rfl (.lenS rfl tsl22) ?_
    refine VO.mv ?_
    refine VO.k16 0 1 2 3 4 5 7 8 9 17 26 27 28 41 42 43 ?_
    refine VC.block ?_
    refine VC.loop (G := Nat × (List UInt8) × (Option Addr) × Nat × Mem × Int) (fun g => [(8, Value.slice (g.2.2.1) ((g.2.1).length) ((g.2.2.2.1))), (9, Value.int .i64 ((g.2.2.2.2.2))), (43, Value.int .i64 ((((g.1) : Nat) : Int))), (0, Value.agg [Value.int .i64 (d0.1), Value.int .i64 (d0.2.1), Value.slice p0_A2 (d0.2.2.length) (p0_c2)].toArray), (1, Value.pointer (some ⟨g1, 0, none⟩)), (4, Value.int .i64 (sectCheck d0)), (5, Value.slice A10_0 ((((venc ((d0.1).toNat)) ++ venc ((d0.2.1).toNat)) ++ venc d0.2.2.length).length) (c10_0)), (7, Value.int .i64 (((d0.2.2.length : Nat) : Int))), (17, Value.bool (decide (¬ (sectCheck d0) = 0))), (26, Value.agg [Value.int .i64 (d0.1), Value.int .i64 (d0.2.1), Value.int .i64 (((d0.2.2.length : Nat) : Int))].toArray), (27, Value.int .i64 (((3 : Nat) : Int))), (28, Value.bool (decide (((3 : Nat) : Int) < 3))), (41, Value.slice p0_A2 (d0.2.2.length) (p0_c2)), (42, Value.int .i64 (((d0.2.2.length : Nat) : Int)))]) (fun g => [(112, (g.2.2.2.2.1)), (110, m10), (102, mone g1 (.cells [Value.int .i64 (d0.1), Value.int .i64 (d0.2.1), Value.slice p0_A2 (d0.2.2.length) (p0_c2)].toArray 24 (0, 0))), (0, wm W)]) (fun g => ((g.1) ≤ d0.2.2.length) ∧ ((g.2.2.2.2.2) = 0) ∧ ((g.2.1) ++ cFrames (d0.2.2.drop (g.1)) = sectEnc d0) ∧ ((g.2.1).length ≤ 40 + 710 * (g.1)) ∧ (OwnL .byte (g.2.2.2.2.1) mnil (.slice (g.2.2.1) (g.2.1).length (g.2.2.2.1)) (g.2.1))) (fun g => d0.2.2.length - (g.1)) (0, (fAppend [] (((venc ((d0.1).toNat)) ++ venc ((d0.2.1).toNat)) ++ venc d0.2.2.length)).1, A12_0, c12_0, m12, (fAppend [] (((venc ((d0.1).toNat)) ++ venc ((d0.2.1).toNat)) ++ venc d0.2.2.length)).2) (⟨by omega, by exact senc_head0 (Decidable.not_not.1 ‹¬ ¬ sectCheck d0 = 0›), by exact senc_head1 (Decidable.not_not.1 ‹¬ ¬ sectCheck d0 = 0›), by exact senc_head2 (Decidable.not_not.1 ‹¬ ¬ sectCheck d0 = 0›), (Ow.ownl f12_0 rfl mnil)⟩) ⟨⟨rfl, rfl, rfl, rfl, rfl, rfl, rfl, rfl, rfl, rfl, rfl, rfl, rfl, rfl, trivial⟩, fun _ h => h.sub [112, 110, 102, 0]⟩ ?_
    rintro ⟨k, b, b_A, b_c, b_m, e⟩ ⟨hk, he, hb, hl, h_b⟩
    replace hk : k ≤ d0.2.2.length := hk
    replace he : e = 0 := he
    replace hb : b ++ cFrames (d0.2.2.drop k) = sectEnc d0 := hb
    replace hl : b.length ≤ 40 + 710 * k := hl
    replace h_b : OwnL .byte b_m mnil (.slice b_A b.length b_c) b := h_b
    show VC _ _ _ _ _ [(8, Value.slice b_A (b.length) (b_c)), (9, Value.int .i64 (e)), (43, Value.int .i64 (((k : Nat) : Int))), (0, Value.agg [Value.int .i64 (d0.1), Value.int .i64 (d0.2.1), Value.slice p0_A2 (d0.2.2.length) (p0_c2)].toArray), (1, Value.pointer (some ⟨g1, 0, none⟩)), (4, Value.int .i64 (sectCheck d0)), (5, Value.slice A10_0 ((((venc ((d0.1).toNat)) ++ venc ((d0.2.1).toNat)) ++ venc d0.2.2.length).length) (c10_0)), (7, Value.int .i64 (((d0.2.2.length : Nat) : Int))), (17, Value.bool (decide (¬ (sectCheck d0) = 0))), (26, Value.agg [Value.int .i64 (d0.1), Value.int .i64 (d0.2.1), Value.int .i64 (((d0.2.2.length : Nat) : Int))].toArray), (27, Value.int .i64 (((3 : Nat) : Int))), (28, Value.bool (decide (((3 : Nat) : Int) < 3))), (41, Value.slice p0_A2 (d0.2.2.length) (p0_c2)), (42, Value.int .i64 (((d0.2.2.length : Nat) : Int)))] [(112, b_m), (110, m10), (102, mone g1 (.cells [Value.int .i64 (d0.1), Value.int .i64 (d0.2.1), Value.slice p0_A2 (d0.2.2.length) (p0_c2)].toArray 24 (0, 0))), (0, wm W)]
    have l_b : b.length ≤ b_c := by obtain ⟨_, _, he, hl, _⟩ := h_b.slice; simp only [Value.slice.injEq] at he; omega
    have k_b : b_c ≤ 9223372036854775807 := by obtain ⟨_, _, he, _, hl⟩ := h_b.slice; simp only [Value.slice.injEq, maxLen] at he hl; omega
    refine VC.rs ?_
    refine VO.y rfl (.lss rfl rfl) ?_
    refine VO.keep [112, 110, 102, 0] [(112, b_m), (110, m10), (102, mone g1 (.cells [Value.int .i64 (d0.1), Value.int .i64 (d0.2.1), Value.slice p0_A2 (d0.2.2.length) (p0_c2)].toArray 24 (0, 0))), (0, wm W)] (by kernel_rfl) ?_
    refine VO.k15 0 1 4 5 7 8 9 17 26 27 28 41 42 43 44 ?_
    refine VC.seq ?_
    refine VC.cond rfl (fun hc15 => ?_) (fun hc15 => ?_)
    · -- FRRRRT
      refine VC.skip ?_
      refine outN ?_
      refine VC.seq ?_
      refine VC.block ?_
      refine VC.rs ?_
      obtain ⟨x16, hx16⟩ : ∃ z_, (d0.2.2)[k]? = some z_ := ⟨_, List.getElem?_eq_getElem (by first | omega | (simp only [List.length_append, List.length_nil, List.length_cons, List.length_take, List.length_drop] at *; omega) | (have h_ := sect_ok (Decidable.not_not.1 ‹¬ ¬ sectCheck d0 = 0›); have h2_ := sect_fork (Decidable.not_not.1 ‹¬ ¬ sectCheck d0 = 0›); omega) | (have h_ := sect_ok (Decidable.not_not.1 ‹¬ ¬ sectCheck d0 = 0›); have h2_ := sect_fork (Decidable.not_not.1 ‹¬ ¬ sectCheck d0 = 0›); simp only [List.length_append, List.length_nil, List.length_cons, List.length_take, List.length_drop] at *; omega))⟩
      obtain ⟨gg16, oo16, ec16, ea16, hce16, hre16⟩ := p0_2.elem hx16
      cases ea16
      obtain ⟨q16_A2, q16_c2, rfl, q16_0, q16_1, q16_2⟩ := open_Commit (x0 := x16.1) (x1 := x16.2.1) (x2 := x16.2.2) hre16
      simp only [inK] at q16_0
      simp only [inK] at q16_1
      have q16_r2 := Rd.room q16_2
      refine VO.y rfl (.ixI k rfl rfl tsl22 rfl (by first | omega | (simp only [List.length_append, List.length_nil, List.length_cons, List.length_take, List.length_drop] at *; omega) | (have h_ := sect_ok (Decidable.not_not.1 ‹¬ ¬ sectCheck d0 = 0›); have h2_ := sect_fork (Decidable.not_not.1 ‹¬ ¬ sectCheck d0 = 0›); omega) | (have h_ := sect_ok (Decidable.not_not.1 ‹¬ ¬ sectCheck d0 = 0›); have h2_ := sect_fork (Decidable.not_not.1 ‹¬ ¬ sectCheck d0 = 0›); simp only [List.length_append, List.length_nil, List.length_cons, List.length_take, List.length_drop] at *; omega))) ?_
      refine VO.y rfl (.ldA 0 rfl tk32 rfl hce16) ?_
      refine VO.alloc 118 rfl tz32 (fun g17 => ?_)
      refine VO.store (k := 3) (c' := [Value.int .i64 (x16.1), Value.int .i64 (x16.2.1), Value.slice q16_A2 (x16.2.2.length) (q16_c2)]) 118 rfl rfl (.inl tk32) rfl rfl rfl rfl rfl ?_
      refine VO.k16 0 1 4 5 7 8 9 11 17 26 27 28 41 42 43 44 ?_
      refine VC.seq ?_
      refine VC.rs ?_
      refine VO.mv ?_
      refine VO.y rfl (.neq rfl rfl) ?_
      refine VO.k17 0 1 4 5 7 8 9 11 17 26 27 28 41 42 43 44 48 ?_
      refine VC.cond rfl (fun hc19 => ?_) (fun hc19 => ?_)
      · -- FRRRRTT
        exact absurd he hc19
      · -- FRRRRTF
        refine VC.skip ?_
        refine outN ?_
        refine VC.rs ?_
        refine VO.y rfl (.ldA 118 rfl tk32 rfl (cellsAt_one rfl rfl)) ?_
        refine VO.callN 120 rfl fnOk56 rfl (fun W hW => cEncode_ok_ W (Rd.mono hre16 (hW.at (i := 0) rfl))) (fun v20 m20 hv20 => ?_)
        obtain ⟨s20_0, rfl, f20_0⟩ := hv20
        have hfa21 := cEncode_len x16
        obtain ⟨A20_0, c20_0, eq20_0, l20_0, k20_0⟩ := f20_0.slice
        subst eq20_0
        simp only [maxLen] at k20_0
        refine VO.mv ?_
        refine VO.y rfl (.ext rfl rfl) ?_
        refine VO.y rfl (.ext rfl rfl) ?_
        refine VO.as ?_
        refine VO.as ?_
        refine VO.keep [120, 118, 112, 110, 102, 0] [(120, m20), (118, mone g17 (.cells [Value.int .i64 (x16.1), Value.int .i64 (x16.2.1), Value.slice q16_A2 (x16.2.2.length) (q16_c2)].toArray 32 (0, 0))), (112, b_m), (110, m10), (102, mone g1 (.cells [Value.int .i64 (d0.1), Value.int .i64 (d0.2.1), Value.slice (some ⟨gg16, oo16, none⟩) (d0.2.2.length) (p0_c2)].toArray 24 (0, 0))), (0, wm W)] (by kernel_rfl) ?_
        refine VO.k18 0 1 4 5 7 8 9 11 12 17 26 27 28 41 42 43 44 48 ?_
        refine VC.reg ?_
        refine VO.mv ?_
        refine VO.mv ?_
        refine VO.callN 122 rfl fnOk55 rfl (fun W hW => fAppend_ok W (OwnL.rd h_b (hW.at (i := 112) rfl) (mle_nil _)) (OwnL.rd (Ow.ownl f20_0 rfl mnil) (hW.at (i := 120) rfl) (mle_nil _)) (by first | omega | (simp only [List.length_append, List.length_nil, List.length_cons, List.length_take, List.length_drop] at *; omega) | (have h_ := sect_ok (Decidable.not_not.1 ‹¬ ¬ sectCheck d0 = 0›); have h2_ := sect_fork (Decidable.not_not.1 ‹¬ ¬ sectCheck d0 = 0›); omega) | (have h_ := sect_ok (Decidable.not_not.1 ‹¬ ¬ sectCheck d0 = 0›); have h2_ := sect_fork (Decidable.not_not.1 ‹¬ ¬ sectCheck d0 = 0›); simp only [List.length_append, List.length_nil, List.length_cons, List.length_take, List.length_drop] at *; omega))) (fun v22 m22 hv22 => ?_)
        obtain ⟨s22_0, rfl, f22_0⟩ := hv22
        have hfa23 := fAppend_len b ((cEncode x16).1)
        have hfa24 := fAppend_range b ((cEncode x16).1)
        obtain ⟨A22_0, c22_0, eq22_0, l22_0, k22_0⟩ := f22_0.slice
        subst eq22_0
        simp only [maxLen] at k22_0
        refine VO.mv ?_
        refine VO.y rfl (.ext rfl rfl) ?_
        refine VO.y rfl (.ext rfl rfl) ?_
        refine VO.as ?_
        refine VO.as ?_
        refine VO.k18 0 1 4 5 7 8 9 11 12 17 26 27 28 41 42 43 44 48 ?_
        refine outBN ?_
        refine outN ?_
        refine VC.reg ?_
        refine VO.y rfl (.add (c := ((k + 1 : Nat) : Int)) rfl rfl (by omega) ⟨by first | omega | (simp only [List.length_append, List.length_nil, List.length_cons, List.length_take, List.length_drop] at *; omega) | (have h_ := sect_ok (Decidable.not_not.1 ‹¬ ¬ sectCheck d0 = 0›); have h2_ := sect_fork (Decidable.not_not.1 ‹¬ ¬ sectCheck d0 = 0›); omega) | (have h_ := sect_ok (Decidable.not_not.1 ‹¬ ¬ sectCheck d0 = 0›); have h2_ := sect_fork (Decidable.not_not.1 ‹¬ ¬ sectCheck d0 = 0›); simp only [List.length_append, List.length_nil, List.length_cons, List.length_take, List.length_drop] at *; omega), by first | omega | (simp only [List.length_append, List.length_nil, List.length_cons, List.length_take, List.length_drop] at *; omega) | (have h_ := sect_ok (Decidable.not_not.1 ‹¬ ¬ sectCheck d0 = 0›); have h2_ := sect_fork (Decidable.not_not.1 ‹¬ ¬ sectCheck d0 = 0›); omega) | (have h_ := sect_ok (Decidable.not_not.1 ‹¬ ¬ sectCheck d0 = 0›); have h2_ := sect_fork (Decidable.not_not.1 ‹¬ ¬ sectCheck d0 = 0›); simp only [List.length_append, List.length_nil, List.length_cons, List.length_take, List.length_drop] at *; omega)⟩) ?_
        refine VO.mv ?_
        refine VO.k18 0 1 4 5 7 8 9 11 12 17 26 27 28 41 42 43 44 48 ?_
        exact outN ⟨⟨k + 1, (fAppend b ((cEncode x16).1)).1, A22_0, c22_0, m22, (fAppend b ((cEncode x16).1)).2⟩, ⟨by omega, by exact senc_step0 (Decidable.not_not.1 ‹¬ ¬ sectCheck d0 = 0›) ‹d0.2.2[k]? = some _›, by exact senc_step1 (Decidable.not_not.1 ‹¬ ¬ sectCheck d0 = 0›) hb ‹d0.2.2[k]? = some _›, by exact senc_step2 (Decidable.not_not.1 ‹¬ ¬ sectCheck d0 = 0›) hl ‹d0.2.2[k]? = some _›, (Ow.ownl f22_0 rfl mnil)⟩, by first | omega | (simp only [List.length_append, List.length_nil, List.length_cons, List.length_take, List.length_drop] at *; omega) | (have h_ := sect_ok (Decidable.not_not.1 ‹¬ ¬ sectCheck d0 = 0›); have h2_ := sect_fork (Decidable.not_not.1 ‹¬ ¬ sectCheck d0 = 0›); omega) | (have h_ := sect_ok (Decidable.not_not.1 ‹¬ ¬ sectCheck d0 = 0›); have h2_ := sect_fork (Decidable.not_not.1 ‹¬ ¬ sectCheck d0 = 0›); simp only [List.length_append, List.length_nil, List.length_cons, List.length_take, List.length_drop] at *; omega), ⟨⟨rfl, rfl, rfl, rfl, rfl, rfl, rfl, rfl, rfl, rfl, rfl, rfl, rfl, rfl, trivial⟩, fun _ h => Inv.sub (Inv.num h 122 112 rfl) [112, 110, 102, 0]⟩⟩
    · -- FRRRRF
      refine VC.exit ?_
      refine outE ?_
      refine outE ?_
      refine outBB ?_
      refine outN ?_
      refine VC.rs ?_
      refine VO.mv ?_
      refine VO.mv ?_
      refine VO.as ?_
      refine VO.as ?_
      refine VO.k17 0 1 2 3 4 5 7 8 9 17 26 27 28 41 42 43 44 ?_
      refine VC.ret ?_
      refine ⟨_, _, res_run (rs := [.tmp 2, .tmp 3]) rfl (.tmp rfl (.tmp rfl .nil)), fun W_ hI => out_of (l := [b_m]) hI [112] rfl rfl (mle_refl _) (fun hS_ => ?_)⟩
      dsimp only [packV]
      have he0 : ((sectEncode d0).1 : Ty.Den (.sl .byte)) = b := by first | rfl | (first | (rw [sectEncode_bad (by assumption)] <;> rfl) | (rw [sectEncode_good (by assumption)] <;> first | rfl | (dsimp only; rw [← hb, List.drop_of_length_le (by omega)]; simp [cFrames]; done) | (dsimp only; rw [he]; done)))
      refine ⟨Value.slice b_A (b.length) (b_c), ?_, ?_⟩
      rotate_left
      · rw [he0]; exact (Ow.up (OwnL.ow h_b rfl) (hS_.1 _ (.head _)))
      all_goals (first | rfl | (first | (rw [sectEncode_bad (by assumption)] <;> rfl) | (rw [sectEncode_good (by assumption)] <;> first | rfl | (dsimp only; rw [← hb, List.drop_of_length_le (by omega)]; simp [cFrames]; done) | (dsimp only; rw [he]; done))))
set_option maxHeartbeats 2000000 in
theorem head_ok (W : World) {v0 : Value} {d0 : List UInt8} (h0 : Rd (.sl .byte) (wm W) [v0] d0) : CallR Try.prog 92 [v0] W (mnil) (fun v m' => v = .tuple #[.agg [.int .i64 ((headS d0).1.1), .int .i64 ((headS d0).1.2.1), .slice none 0 0].toArray, .int .i64 ((headS d0).2.1), .bool ((headS d0).2.2)]) := by
  obtain ⟨A0, c0, rfl, l0, k0⟩ := h0.slice
  simp only [maxLen] at k0
  refine CallR.ofA (n := 39) Try.func92 rfl rfl rfl ?_
  refine VC.rs ?_
  refine VO.alloc 102 rfl tz24 (fun g1 => ?_)
  refine VO.as ?_
  refine VO.as ?_
  refine VO.k4 0 2 3 4 ?_
  refine VC.rs ?_
  refine VO.alloc 104 rfl tz80 (fun g3 => ?_)
  refine VO.k5 0 2 3 4 5 ?_
  refine VC.seq ?_
  refine VC.rs ?_
  refine VO.mv ?_
  refine VO.keep [104, 102, 0] [(104, mone g3 (.cells [Value.int .i64 (0), Value.int .i64 (0), Value.int .i64 (0)].toArray 80 (0, 0))), (102, mone g1 (.cells [Value.int .i64 (0), Value.int .i64 (0), Value.slice none (0) (0)].toArray 24 (0, 0))), (0, wm W)] (by kernel_rfl) ?_
  refine VO.k6 0 2 3 4 5 10 ?_
  refine VC.block ?_
  refine VC.rounds 5 (VRounds.step ?_)
  refine VC.rs ?_
  refine VO.y rfl (.lss rfl rfl) ?_
  refine VO.k7 0 2 3 4 5 10 11 ?_
  refine VC.seq ?_
  refine VC.condKT rfl (decide_eq_true (by decide)) ?_
  refine VC.skip ?_
  refine outN ?_
  refine VC.seq ?_
  refine VC.block ?_
  refine VC.rs ?_
  refine VO.mv ?_
  refine VO.as ?_
  refine VO.k8 0 2 3 4 5 6 10 11 ?_
  refine VC.rs ?_
  refine VO.mv ?_
  refine VO.callN 105 rfl fnOk111 rfl (fun W hW => vSmall_ok W (Rd.mono h0 (hW.at (i := 0) rfl)) 1048576 bdk) (fun v5 m5 hv5 => ?_)
  subst hv5
  have hfa6 := s_bounds d0 1048576 (by omega)
  refine VO.mv ?_
  refine VO.y rfl (.ext rfl rfl) ?_
  refine VO.y rfl (.ext rfl rfl) ?_
  refine VO.y rfl (.ext rfl rfl) ?_
  refine VO.as ?_
  refine VO.as ?_
  refine VO.as ?_
  refine VO.keep [104, 102, 0] [(104, mone g3 (.cells [Value.int .i64 (0), Value.int .i64 (0), Value.int .i64 (0)].toArray 80 (0, 0))), (102, mone g1 (.cells [Value.int .i64 (0), Value.int .i64 (0), Value.slice none (0) (0)].toArray 24 (0, 0))), (0, wm W)] (by kernel_rfl) ?_
  refine VO.k11 0 2 3 4 5 6 7 8 9 10 11 ?_
  refine VC.seq ?_
  refine VC.rs ?_
  refine VO.mv ?_
  refine VO.y rfl (.neq rfl rfl) ?_
  refine VO.k12 0 2 3 4 5 6 7 8 9 10 11 20 ?_
  refine VC.cond rfl (fun hc7 => ?_) (fun hc7 => ?_)
  · -- RT
    refine VC.rs ?_
    refine VO.y rfl (.bst (cs := [Value.int .i64 (0), Value.int .i64 (0), Value.slice none (0) (0)]) rfl tst24 tz24 rfl) ?_
    refine VO.store (k := 3) (c' := [Value.int .i64 (0), Value.int .i64 (0), Value.slice none (0) (0)]) 102 rfl rfl (.inl tk24) rfl rfl rfl rfl rfl ?_
    refine VO.as ?_
    refine VO.as ?_
    refine VO.k12 0 2 3 4 5 6 7 8 9 10 11 20 ?_
    refine VC.ret ?_
    refine outR ?_
    refine outBR ?_
    refine outR ?_
    refine outR ?_
    refine outBR ?_
    refine outR ?_
    refine ⟨_, _, res_run (rs := [.cell 2 24, .tmp 3, .tmp 4]) rfl (.agg 102 rfl tk24 rfl ⟨_, _, _, mone_self _ _, Nat.le_of_ble_eq_true rfl, rfl⟩ (.tmp rfl (.tmp rfl .nil))), fun W_ hI => out_of (l := []) hI [] rfl rfl (mle_refl _) (fun hS_ => ?_)⟩
    dsimp only [packV]
    all_goals (first | rfl | (first | (rw [headS_no1 (by assumption)] <;> rfl) | (rw [headS_x2 (by assumption)] <;> rfl) | (rw [headS_x3 (by assumption)] <;> rfl) | (rw [headS_x4 (by assumption) (by assumption) (by assumption)] <;> first | rfl | (simp only [List.length_drop]; done) | (simp only [List.length_drop]; congr 4 <;> (apply decide_eq_decide.2; omega)))))
  · -- RF
    refine VC.skip ?_
    refine outN ?_
    refine VC.regD _ 7 [(0, true), (1, true), (2, true), (3, true), (4, true), (5, true), (6, false)] follows (by kernel_rfl) (fun _ h => h.sub [102, 0]) ?_
    refine VD.y rfl rfl (.inl rfl) (.mv rfl) ?_
    refine VD.y rfl rfl (.inl rfl) (.mv rfl) ?_
    refine VD.y rfl rfl (.inl rfl) (.mv rfl) ?_
    refine VD.y rfl rfl (.inl rfl) (.mv rfl) ?_
    obtain ⟨A8, hA8, hs8⟩ := h0.drop 1 (sN d0 1048576) rfl bd
    refine VD.y rfl rfl (.inl rfl) (.slLI (sN d0 1048576) A8 rfl rfl tsl25 rfl hA8 bd) ?_
    refine VD.y rfl rfl (.inl rfl) (.ixa (i := 0) (o := 0) rfl rfl tar80 rfl rfl rfl) ?_
    refine VD.store (k := 1) (c' := [Value.int .i64 (((sX d0 1048576 : Nat) : Int)), Value.int .i64 (0), Value.int .i64 (0)]) 104 rfl rfl rfl (.inr ⟨tk3, rfl⟩) rfl rfl rfl rfl rfl (fun _ h => h.sub [102, 0]) ?_
    refine VD.nil rfl ?_ rfl
    refine VO.as ?_
    refine VO.k12 0 2 3 4 5 6 7 8 9 10 11 20 ?_
    refine outBN ?_
    refine outN ?_
    refine VC.reg ?_
    refine VO.y rfl (.add (c := ((1 : Nat) : Int)) rfl rfl (by omega) ⟨bd, bd⟩) ?_
    refine VO.mv ?_
    refine VO.keep [104, 102, 0] [(104, mone g3 (.cells [Value.int .i64 (((sX d0 1048576 : Nat) : Int)), Value.int .i64 (0), Value.int .i64 (0)].toArray 80 (0, 0))), (102, mone g1 (.cells [Value.int .i64 (0), Value.int .i64 (0), Value.slice none (0) (0)].toArray 24 (0, 0))), (0, wm W)] (by kernel_rfl) ?_
    refine VO.k12 0 2 3 4 5 6 7 8 9 10 11 20 ?_
    refine outN (VRounds.step ?_)
    refine VC.rs ?_
    refine VO.y rfl (.lss rfl rfl) ?_
    refine VO.k12 0 2 3 4 5 6 7 8 9 10 11 20 ?_
    refine VC.seq ?_
    refine VC.condKT rfl (decide_eq_true (by decide)) ?_
    refine VC.skip ?_
    refine outN ?_
    refine VC.seq ?_
    refine VC.block ?_
    refine VC.rs ?_
    refine VO.mv ?_
    refine VO.as ?_
    refine VO.k12 0 2 3 4 5 6 7 8 9 10 11 20 ?_
    refine VC.rs ?_
    refine VO.mv ?_
    refine VO.callN 109 rfl fnOk111 rfl (fun W hW => vSmall_ok W (Rd.mono hs8 (hW.at (i := 0) rfl)) 1048576 bdk) (fun v9 m9 hv9 => ?_)
    subst hv9
    have hfa10 := s_bounds (d0.drop (sN d0 1048576)) 1048576 (by omega)
    refine VO.mv ?_
    refine VO.y rfl (.ext rfl rfl) ?_
    refine VO.y rfl (.ext rfl rfl) ?_
    refine VO.y rfl (.ext rfl rfl) ?_
    refine VO.as ?_
    refine VO.as ?_
    refine VO.as ?_
    refine VO.keep [104, 102, 0] [(104, mone g3 (.cells [Value.int .i64 (((sX d0 1048576 : Nat) : Int)), Value.int .i64 (0), Value.int .i64 (0)].toArray 80 (0, 0))), (102, mone g1 (.cells [Value.int .i64 (0), Value.int .i64 (0), Value.slice none (0) (0)].toArray 24 (0, 0))), (0, wm W)] (by kernel_rfl) ?_
    refine VO.k12 0 2 3 4 5 6 7 8 9 10 11 20 ?_
    refine VC.seq ?_
    refine VC.rs ?_
    refine VO.mv ?_
    refine VO.y rfl (.neq rfl rfl) ?_
    refine VO.k12 0 2 3 4 5 6 7 8 9 10 11 20 ?_
    refine VC.cond rfl (fun hc11 => ?_) (fun hc11 => ?_)
    · -- RFRT
      refine VC.rs ?_
      refine VO.y rfl (.bst (cs := [Value.int .i64 (0), Value.int .i64 (0), Value.slice none (0) (0)]) rfl tst24 tz24 rfl) ?_
      refine VO.store (k := 3) (c' := [Value.int .i64 (0), Value.int .i64 (0), Value.slice none (0) (0)]) 102 rfl rfl (.inl tk24) rfl rfl rfl rfl rfl ?_
      refine VO.as ?_
      refine VO.as ?_
      refine VO.k12 0 2 3 4 5 6 7 8 9 10 11 20 ?_
      refine VC.ret ?_
      refine outR ?_
      refine outBR ?_
      refine outR ?_
      refine outR ?_
      refine outBR ?_
      refine outR ?_
      refine ⟨_, _, res_run (rs := [.cell 2 24, .tmp 3, .tmp 4]) rfl (.agg 102 rfl tk24 rfl ⟨_, _, _, mone_self _ _, Nat.le_of_ble_eq_true rfl, rfl⟩ (.tmp rfl (.tmp rfl .nil))), fun W_ hI => out_of (l := []) hI [] rfl rfl (mle_refl _) (fun hS_ => ?_)⟩
      dsimp only [packV]
      all_goals (first | rfl | (first | (rw [headS_no1 (by assumption)] <;> rfl) | (rw [headS_x2 (by assumption)] <;> rfl) | (rw [headS_x3 (by assumption)] <;> rfl) | (rw [headS_x4 (by assumption) (by assumption) (by assumption)] <;> first | rfl | (simp only [List.length_drop]; done) | (simp only [List.length_drop]; congr 4 <;> (apply decide_eq_decide.2; omega)))))
    · -- RFRF
      refine VC.skip ?_
      refine outN ?_
      refine VC.regD _ 7 [(0, true), (1, true), (2, true), (3, true), (4, true), (5, true), (6, false)] follows (by kernel_rfl) (fun _ h => h.sub [102, 0]) ?_
      refine VD.y rfl rfl (.inl rfl) (.mv rfl) ?_
      refine VD.y rfl rfl (.inl rfl) (.mv rfl) ?_
      refine VD.y rfl rfl (.inl rfl) (.mv rfl) ?_
      refine VD.y rfl rfl (.inl rfl) (.mv rfl) ?_
      obtain ⟨A12, hA12, hs12⟩ := hs8.drop 1 (sN (d0.drop (sN d0 1048576)) 1048576) rfl bd
      replace hs12 := Rd.relen (k := (d0.length - (sN d0 1048576)) - (sN (d0.drop (sN d0 1048576)) 1048576)) hs12 (by simp only [List.length_drop, List.length_take]; try omega)
      refine VD.y rfl rfl (.inl rfl) (.slLI (sN (d0.drop (sN d0 1048576)) 1048576) A12 rfl rfl tsl25 rfl hA12 bd) ?_
      refine VD.y rfl rfl (.inl rfl) (.ixa (i := 1) (o := 1) rfl rfl tar80 rfl rfl rfl) ?_
      refine VD.store (k := 1) (c' := [Value.int .i64 (((sX d0 1048576 : Nat) : Int)), Value.int .i64 (((sX (d0.drop (sN d0 1048576)) 1048576 : Nat) : Int)), Value.int .i64 (0)]) 104 rfl rfl rfl (.inr ⟨tk3, rfl⟩) rfl rfl rfl rfl rfl (fun _ h => h.sub [102, 0]) ?_
      refine VD.nil rfl ?_ rfl
      refine VO.as ?_
      refine VO.k12 0 2 3 4 5 6 7 8 9 10 11 20 ?_
      refine outBN ?_
      refine outN ?_
      refine VC.reg ?_
      refine VO.y rfl (.add (c := ((2 : Nat) : Int)) rfl rfl (by omega) ⟨bd, bd⟩) ?_
      refine VO.mv ?_
      refine VO.keep [104, 102, 0] [(104, mone g3 (.cells [Value.int .i64 (((sX d0 1048576 : Nat) : Int)), Value.int .i64 (((sX (d0.drop (sN d0 1048576)) 1048576 : Nat) : Int)), Value.int .i64 (0)].toArray 80 (0, 0))), (102, mone g1 (.cells [Value.int .i64 (0), Value.int .i64 (0), Value.slice none (0) (0)].toArray 24 (0, 0))), (0, wm W)] (by kernel_rfl) ?_
      refine VO.k12 0 2 3 4 5 6 7 8 9 10 11 20 ?_
      refine outN (VRounds.step ?_)
      refine VC.rs ?_
      refine VO.y rfl (.lss rfl rfl) ?_
      refine VO.k12 0 2 3 4 5 6 7 8 9 10 11 20 ?_
      refine VC.seq ?_
      refine VC.condKT rfl (decide_eq_true (by decide)) ?_
      refine VC.skip ?_
      refine outN ?_
      refine VC.seq ?_
      refine VC.block ?_
      refine VC.rs ?_
      refine VO.mv ?_
      refine VO.as ?_
      refine VO.k12 0 2 3 4 5 6 7 8 9 10 11 20 ?_
      refine VC.rs ?_
      refine VO.mv ?_
      refine VO.callN 113 rfl fnOk111 rfl (fun W hW => vSmall_ok W (Rd.mono hs12 (hW.at (i := 0) rfl)) 1048576 bdk) (fun v13 m13 hv13 => ?_)
      subst hv13
      have hfa14 := s_bounds ((d0.drop (sN d0 1048576)).drop (sN (d0.drop (sN d0 1048576)) 1048576)) 1048576 (by omega)
      refine VO.mv ?_
      refine VO.y rfl (.ext rfl rfl) ?_
      refine VO.y rfl (.ext rfl rfl) ?_
      refine VO.y rfl (.ext rfl rfl) ?_
      refine VO.as ?_
      refine VO.as ?_
      refine VO.as ?_
      refine VO.keep [104, 102, 0] [(104, mone g3 (.cells [Value.int .i64 (((sX d0 1048576 : Nat) : Int)), Value.int .i64 (((sX (d0.drop (sN d0 1048576)) 1048576 : Nat) : Int)), Value.int .i64 (0)].toArray 80 (0, 0))), (102, mone g1 (.cells [Value.int .i64 (0), Value.int .i64 (0), Value.slice none (0) (0)].toArray 24 (0, 0))), (0, wm W)] (by kernel_rfl) ?_
      refine VO.k12 0 2 3 4 5 6 7 8 9 10 11 20 ?_
      refine VC.seq ?_
      refine VC.rs ?_
      refine VO.mv ?_
      refine VO.y rfl (.neq rfl rfl) ?_
      refine VO.k12 0 2 3 4 5 6 7 8 9 10 11 20 ?_
      refine VC.cond rfl (fun hc15 => ?_) (fun hc15 => ?_)
      · -- RFRFRT
        refine VC.rs ?_
        refine VO.y rfl (.bst (cs := [Value.int .i64 (0), Value.int .i64 (0), Value.slice none (0) (0)]) rfl tst24 tz24 rfl) ?_
        refine VO.store (k := 3) (c' := [Value.int .i64 (0), Value.int .i64 (0), Value.slice none (0) (0)]) 102 rfl rfl (.inl tk24) rfl rfl rfl rfl rfl ?_
        refine VO.as ?_
        refine VO.as ?_
        refine VO.k12 0 2 3 4 5 6 7 8 9 10 11 20 ?_
        refine VC.ret ?_
        refine outR ?_
        refine outBR ?_
        refine outR ?_
        refine outR ?_
        refine outBR ?_
        refine outR ?_
        refine ⟨_, _, res_run (rs := [.cell 2 24, .tmp 3, .tmp 4]) rfl (.agg 102 rfl tk24 rfl ⟨_, _, _, mone_self _ _, Nat.le_of_ble_eq_true rfl, rfl⟩ (.tmp rfl (.tmp rfl .nil))), fun W_ hI => out_of (l := []) hI [] rfl rfl (mle_refl _) (fun hS_ => ?_)⟩
        dsimp only [packV]
        all_goals (first | rfl | (first | (rw [headS_no1 (by assumption)] <;> rfl) | (rw [headS_x2 (by assumption)] <;> rfl) | (rw [headS_x3 (by assumption)] <;> rfl) | (rw [headS_x4 (by assumption) (by assumption) (by assumption)] <;> first | rfl | (simp only [List.length_drop]; done) | (simp only [List.length_drop]; congr 4 <;> (apply decide_eq_decide.2; omega)))))
      · -- RFRFRF
        refine VC.skip ?_
        refine outN ?_
        refine VC.regD _ 7 [(0, true), (1, true), (2, true), (3, true), (4, true), (5, true), (6, false)] follows (by kernel_rfl) (fun _ h => h.sub [102, 0]) ?_
        refine VD.y rfl rfl (.inl rfl) (.mv rfl) ?_
        refine VD.y rfl rfl (.inl rfl) (.mv rfl) ?_
        refine VD.y rfl rfl (.inl rfl) (.mv rfl) ?_
        refine VD.y rfl rfl (.inl rfl) (.mv rfl) ?_
        obtain ⟨A16, hA16, hs16⟩ := hs12.drop 1 (sN ((d0.drop (sN d0 1048576)).drop (sN (d0.drop (sN d0 1048576)) 1048576)) 1048576) rfl bd
        replace hs16 := Rd.relen (k := ((d0.length - (sN d0 1048576)) - (sN (d0.drop (sN d0 1048576)) 1048576)) - (sN ((d0.drop (sN d0 1048576)).drop (sN (d0.drop (sN d0 1048576)) 1048576)) 1048576)) hs16 (by simp only [List.length_drop, List.length_take]; try omega)
        refine VD.y rfl rfl (.inl rfl) (.slLI (sN ((d0.drop (sN d0 1048576)).drop (sN (d0.drop (sN d0 1048576)) 1048576)) 1048576) A16 rfl rfl tsl25 rfl hA16 bd) ?_
        refine VD.y rfl rfl (.inl rfl) (.ixa (i := 2) (o := 2) rfl rfl tar80 rfl rfl rfl) ?_
        refine VD.store (k := 1) (c' := [Value.int .i64 (((sX d0 1048576 : Nat) : Int)), Value.int .i64 (((sX (d0.drop (sN d0 1048576)) 1048576 : Nat) : Int)), Value.int .i64 (((sX ((d0.drop (sN d0 1048576)).drop (sN (d0.drop (sN d0 1048576)) 1048576)) 1048576 : Nat) : Int))]) 104 rfl rfl rfl (.inr ⟨tk3, rfl⟩) rfl rfl rfl rfl rfl (fun _ h => h.sub [102, 0]) ?_
        refine VD.nil rfl ?_ rfl
        refine VO.as ?_
        refine VO.k12 0 2 3 4 5 6 7 8 9 10 11 20 ?_
        refine outBN ?_
        refine outN ?_
        refine VC.reg ?_
        refine VO.y rfl (.add (c := ((3 : Nat) : Int)) rfl rfl (by omega) ⟨bd, bd⟩) ?_
        refine VO.mv ?_
        refine VO.keep [104, 102, 0] [(104, mone g3 (.cells [Value.int .i64 (((sX d0 1048576 : Nat) : Int)), Value.int .i64 (((sX (d0.drop (sN d0 1048576)) 1048576 : Nat) : Int)), Value.int .i64 (((sX ((d0.drop (sN d0 1048576)).drop (sN (d0.drop (sN d0 1048576)) 1048576)) 1048576 : Nat) : Int))].toArray 80 (0, 0))), (102, mone g1 (.cells [Value.int .i64 (0), Value.int .i64 (0), Value.slice none (0) (0)].toArray 24 (0, 0))), (0, wm W)] (by kernel_rfl) ?_
        refine VO.k12 0 2 3 4 5 6 7 8 9 10 11 20 ?_
        refine outN (VRounds.step ?_)
        refine VC.rs ?_
        refine VO.y rfl (.lss rfl rfl) ?_
        refine VO.k12 0 2 3 4 5 6 7 8 9 10 11 20 ?_
        refine VC.seq ?_
        refine VC.condKF rfl (decide_eq_false (by decide)) ?_
        refine VC.exit ?_
        refine outE ?_
        refine outE ?_
        refine outBB ?_
        refine outN ?_
        refine VC.seq ?_
        refine VC.regD _ 12 [(0, true), (1, true), (2, true), (3, true), (4, true), (5, true), (6, true), (7, true), (8, true), (9, true), (10, false), (11, true)] follows (by kernel_rfl) (fun _ h => h.sub [104, 0]) ?_
        refine VD.y rfl rfl (.inl rfl) (.ixa (i := 0) (o := 0) rfl rfl tar80 rfl rfl rfl) ?_
        refine VD.y rfl rfl (.inl rfl) (.ld1 104 rfl tk3 rfl (cellsAt_one rfl rfl)) ?_
        refine VD.y rfl rfl (.inl rfl) (.ixa (i := 1) (o := 1) rfl rfl tar80 rfl rfl rfl) ?_
        refine VD.y rfl rfl (.inl rfl) (.ld1 104 rfl tk3 rfl (cellsAt_one rfl rfl)) ?_
        refine VD.y rfl rfl (.inl rfl) (.bst (cs := [Value.int .i64 (((sX d0 1048576 : Nat) : Int)), Value.int .i64 (((sX (d0.drop (sN d0 1048576)) 1048576 : Nat) : Int)), Value.slice none (0) (0)]) rfl tst24 tz24 rfl) ?_
        refine VD.y rfl rfl (.inl rfl) (.ixa (i := 2) (o := 2) rfl rfl tar80 rfl rfl rfl) ?_
        refine VD.y rfl rfl (.inl rfl) (.ld1 104 rfl tk3 rfl (cellsAt_one rfl rfl)) ?_
        refine VD.y rfl rfl (.inl rfl) (.mv rfl) ?_
        refine VD.y rfl rfl (.inl rfl) (.lenS rfl tsl25) ?_
        refine VD.y rfl rfl (.inl rfl) (.eql rfl rfl) ?_
        refine VD.store (k := 3) (c' := [Value.int .i64 (((sX d0 1048576 : Nat) : Int)), Value.int .i64 (((sX (d0.drop (sN d0 1048576)) 1048576 : Nat) : Int)), Value.slice none (0) (0)]) 102 rfl rfl rfl (.inl tk24) rfl rfl rfl rfl rfl (fun _ h => h.sub [104, 0]) ?_
        refine VD.y rfl rfl (.inl rfl) (.as rfl) ?_
        refine VD.nil rfl ?_ rfl
        refine VO.as ?_
        refine VO.k12 0 2 3 4 5 6 7 8 9 10 11 20 ?_
        refine outN ?_
        refine VC.ret ?_
        refine ⟨_, _, res_run (rs := [.cell 2 24, .tmp 3, .tmp 4]) rfl (.agg 102 rfl tk24 rfl ⟨_, _, _, mone_self _ _, Nat.le_of_ble_eq_true rfl, rfl⟩ (.tmp rfl (.tmp rfl .nil))), fun W_ hI => out_of (l := []) hI [] rfl rfl (mle_refl _) (fun hS_ => ?_)⟩
        dsimp only [packV]
        all_goals (first | rfl | (first | (rw [headS_no1 (by assumption)] <;> rfl) | (rw [headS_x2 (by assumption)] <;> rfl) | (rw [headS_x3 (by assumption)] <;> rfl) | (rw [headS_x4 (by assumption) (by assumption) (by assumption)] <;> first | rfl | (simp only [List.length_drop]; done) | (simp only [List.length_drop]; congr 4 <;> (apply decide_eq_decide.2; omega)))))
theorem section_ok (W : World) {v0 : Value} {d0 : List UInt8} (h0 : Rd (.sl .byte) (wm W) [v0] d0) : CallR Try.prog 60 [v0] W (mnil) (fun v m' => ∃ (s0 : List Value), v = .tuple #[.agg s0.toArray, .int .i64 ((secRead d0).2.1), .bool ((secRead d0).2.2)] ∧ Ow TSection m' s0 ((secRead d0).1)) := by
  obtain ⟨A0, c0, rfl, l0, k0⟩ := h0.slice
  simp only [maxLen] at k0
  refine CallR.ofA (n := 70) Try.func60 rfl rfl rfl ?_
  refine VC.rs ?_
  refine VO.alloc 102 rfl tz24 (fun g1 => ?_)
  refine VO.as ?_
  refine VO.as ?_
  refine VO.k4 0 2 3 4 ?_
  refine VC.rs ?_
  refine VO.mv ?_
  refine VO.callN 103 rfl fnOk91 rfl (fun W hW => fRead_ok W (Rd.mono h0 (hW.at (i := 0) rfl))) (fun v3 m3 hv3 => ?_)
  obtain ⟨s3_0, rfl, f3_0⟩ := hv3
  have hfa4 := fRead_bounds d0
  obtain ⟨A3_0, c3_0, eq3_0, l3_0, k3_0⟩ := f3_0.slice
  subst eq3_0
  simp only [maxLen] at k3_0
  refine VO.mv ?_
  refine VO.y rfl (.ext rfl rfl) ?_
  refine VO.y rfl (.ext rfl rfl) ?_
  refine VO.y rfl (.ext rfl rfl) ?_
  refine VO.as ?_
  refine VO.as ?_
  refine VO.as ?_
  refine VO.k7 0 2 3 4 5 6 7 ?_
  refine VC.seq ?_
  refine VC.rs ?_
  refine VO.mv ?_
  refine VO.y rfl (.neq rfl rfl) ?_
  refine VO.keep [103, 102, 0] [(103, m3), (102, mone g1 (.cells [Value.int .i64 (0), Value.int .i64 (0), Value.slice none (0) (0)].toArray 24 (0, 0))), (0, wm W)] (by kernel_rfl) ?_
  refine VO.k8 0 2 3 4 5 6 7 22 ?_
  refine VC.cond rfl (fun hc5 => ?_) (fun hc5 => ?_)
  · -- T
    refine VC.rs ?_
    refine VO.y rfl (.bst (cs := [Value.int .i64 (0), Value.int .i64 (0), Value.slice none (0) (0)]) rfl tst24 tz24 rfl) ?_
    refine VO.store (k := 3) (c' := [Value.int .i64 (0), Value.int .i64 (0), Value.slice none (0) (0)]) 102 rfl rfl (.inl tk24) rfl rfl rfl rfl rfl ?_
    refine VO.as ?_
    refine VO.as ?_
    refine VO.k8 0 2 3 4 5 6 7 22 ?_
    refine VC.ret ?_
    refine outR ?_
    refine ⟨_, _, res_run (rs := [.cell 2 24, .tmp 3, .tmp 4]) rfl (.agg 102 rfl tk24 rfl ⟨_, _, _, mone_self _ _, Nat.le_of_ble_eq_true rfl, rfl⟩ (.tmp rfl (.tmp rfl .nil))), fun W_ hI => out_of (l := []) hI [] rfl rfl (mle_refl _) (fun hS_ => ?_)⟩
    dsimp only [packV]
    have he0 : ((secRead d0).1 : Ty.Den TSection) = (0, 0, []) := by first | rfl | (first | (rw [sec_no1 (by assumption)] <;> rfl) | (rw [sec_no2 (by first | assumption | simpa using ‹_›)] <;> rfl) | (rw [sec_no3 (by assumption) (by simp [*]) (com_no1 hp (by omega) (by assumption))] <;> rfl) | (rw [sec_no3 (by assumption) (by simp [*]) (com_no2 hp (by omega) (by assumption) (by assumption))] <;> rfl) | (rw [sec_yes (by assumption) (by simp [*]) (com_end hp (by omega))] <;> first | rfl | (done)))
    refine ⟨[Value.int .i64 (0), Value.int .i64 (0), Value.slice none (0) (0)], ?_, ?_⟩
    rotate_left
    · rw [he0]; exact (mkO_Section 0 0 [] (Seps.nilAt 0 hS_) (by simp only [inK]; (first | omega | (simp only [List.length_append, List.length_nil, List.length_cons, List.length_take, List.length_drop] at *; omega) | (have h_ := headS_range (fRead d0).1; omega))) (by simp only [inK]; (first | omega | (simp only [List.length_append, List.length_nil, List.length_cons, List.length_take, List.length_drop] at *; omega) | (have h_ := headS_range (fRead d0).1; omega))) (Ow.nil _ _))
    all_goals (first | rfl | (first | (rw [sec_no1 (by assumption)] <;> rfl) | (rw [sec_no2 (by first | assumption | simpa using ‹_›)] <;> rfl) | (rw [sec_no3 (by assumption) (by simp [*]) (com_no1 hp (by omega) (by assumption))] <;> rfl) | (rw [sec_no3 (by assumption) (by simp [*]) (com_no2 hp (by omega) (by assumption) (by assumption))] <;> rfl) | (rw [sec_yes (by assumption) (by simp [*]) (com_end hp (by omega))] <;> first | rfl | (done))))
  · -- F
    refine VC.skip ?_
    refine outN ?_
    refine VC.rs ?_
    refine VO.mv ?_
    refine VO.callN 106 rfl fnOk92 rfl (fun W hW => head_ok W (OwnL.rd (Ow.ownl f3_0 rfl mnil) (hW.at (i := 103) rfl) (mle_nil _))) (fun v6 m6 hv6 => ?_)
    subst hv6
    have hfa7 := headS_range ((fRead d0).1)
    refine VO.mv ?_
    refine VO.y rfl (.ext rfl rfl) ?_
    refine VO.y rfl (.ext rfl rfl) ?_
    refine VO.y rfl (.ext rfl rfl) ?_
    refine VO.alloc 109 rfl tz24 (fun g8 => ?_)
    refine VO.store (k := 3) (c' := [Value.int .i64 ((headS ((fRead d0).1)).1.1), Value.int .i64 ((headS ((fRead d0).1)).1.2.1), Value.slice none (0) (0)]) 109 rfl rfl (.inl tk24) rfl rfl rfl rfl rfl ?_
    refine VO.as ?_
    refine VO.as ?_
    refine VO.k11 0 2 3 4 5 6 7 8 9 10 22 ?_
    refine VC.seq ?_
    refine VC.rs ?_
    refine VO.mv ?_
    refine VO.y rfl (.not rfl) ?_
    refine VO.k12 0 2 3 4 5 6 7 8 9 10 22 31 ?_
    refine VC.condBN rfl (fun hc10 => ?_) (fun hc10 => ?_)
    · -- FT
      refine VC.rs ?_
      refine VO.y rfl (.bst (cs := [Value.int .i64 (0), Value.int .i64 (0), Value.slice none (0) (0)]) rfl tst24 tz24 rfl) ?_
      refine VO.store (k := 3) (c' := [Value.int .i64 (0), Value.int .i64 (0), Value.slice none (0) (0)]) 102 rfl rfl (.inl tk24) rfl rfl rfl rfl rfl ?_
      refine VO.as ?_
      refine VO.as ?_
      refine VO.keep [109, 103, 102, 0] [(109, mone g8 (.cells [Value.int .i64 ((headS ((fRead d0).1)).1.1), Value.int .i64 ((headS ((fRead d0).1)).1.2.1), Value.slice none (0) (0)].toArray 24 (0, 0))), (103, m3), (102, mone g1 (.cells [Value.int .i64 (0), Value.int .i64 (0), Value.slice none (0) (0)].toArray 24 (0, 0))), (0, wm W)] (by kernel_rfl) ?_
      refine VO.k12 0 2 3 4 5 6 7 8 9 10 22 31 ?_
      refine VC.ret ?_
      refine outR ?_
      refine ⟨_, _, res_run (rs := [.cell 2 24, .tmp 3, .tmp 4]) rfl (.agg 102 rfl tk24 rfl ⟨_, _, _, mone_self _ _, Nat.le_of_ble_eq_true rfl, rfl⟩ (.tmp rfl (.tmp rfl .nil))), fun W_ hI => out_of (l := []) hI [] rfl rfl (mle_refl _) (fun hS_ => ?_)⟩
      dsimp only [packV]
      have he0 : ((secRead d0).1 : Ty.Den TSection) = (0, 0, []) := by first | rfl | (first | (rw [sec_no1 (by assumption)] <;> rfl) | (rw [sec_no2 (by first | assumption | simpa using ‹_›)] <;> rfl) | (rw [sec_no3 (by assumption) (by simp [*]) (com_no1 hp (by omega) (by assumption))] <;> rfl) | (rw [sec_no3 (by assumption) (by simp [*]) (com_no2 hp (by omega) (by assumption) (by assumption))] <;> rfl) | (rw [sec_yes (by assumption) (by simp [*]) (com_end hp (by omega))] <;> first | rfl | (done)))
      refine ⟨[Value.int .i64 (0), Value.int .i64 (0), Value.slice none (0) (0)], ?_, ?_⟩
      rotate_left
      · rw [he0]; exact (mkO_Section 0 0 [] (Seps.nilAt 0 hS_) (by simp only [inK]; (first | omega | (simp only [List.length_append, List.length_nil, List.length_cons, List.length_take, List.length_drop] at *; omega) | (have h_ := headS_range (fRead d0).1; omega))) (by simp only [inK]; (first | omega | (simp only [List.length_append, List.length_nil, List.length_cons, List.length_take, List.length_drop] at *; omega) | (have h_ := headS_range (fRead d0).1; omega))) (Ow.nil _ _))
      all_goals (first | rfl | (first | (rw [sec_no1 (by assumption)] <;> rfl) | (rw [sec_no2 (by first | assumption | simpa using ‹_›)] <;> rfl) | (rw [sec_no3 (by assumption) (by simp [*]) (com_no1 hp (by omega) (by assumption))] <;> rfl) | (rw [sec_no3 (by assumption) (by simp [*]) (com_no2 hp (by omega) (by assumption) (by assumption))] <;> rfl) | (rw [sec_yes (by assumption) (by simp [*]) (com_end hp (by omega))] <;> first | rfl | (done))))
    · -- FF
      refine VC.skip ?_
      refine outN ?_
      refine VC.seq ?_
      refine VC.rs ?_
      refine VO.mv ?_
      refine VO.mv ?_
      refine VO.keep [109, 103, 102, 0] [(109, mone g8 (.cells [Value.int .i64 ((headS ((fRead d0).1)).1.1), Value.int .i64 ((headS ((fRead d0).1)).1.2.1), Value.slice none (0) (0)].toArray 24 (0, 0))), (103, m3), (102, mone g1 (.cells [Value.int .i64 (0), Value.int .i64 (0), Value.slice none (0) (0)].toArray 24 (0, 0))), (0, wm W)] (by kernel_rfl) ?_
      refine VO.k14 0 2 3 4 5 6 7 8 9 10 22 31 33 34 ?_
      refine VC.block ?_
      refine VC.inv ((111, mnil) :: _) (fun _ h => h.nilc 111) ?_
      refine VC.loop (G := (List DCommit) × (Option Addr) × Nat × Mem × Int × Nat) (fun g => [(6, Value.int .i64 ((g.2.2.2.2.1))), (34, Value.int .i64 ((((g.2.2.2.2.2) : Nat) : Int))), (0, Value.slice A0 (d0.length) (c0)), (2, Value.pointer (some ⟨g1, 0, none⟩)), (5, Value.slice A3_0 (((fRead d0).1).length) (c3_0)), (7, Value.int .i64 ((fRead d0).2.2)), (8, Value.pointer (some ⟨g8, 0, none⟩)), (9, Value.int .i64 ((headS ((fRead d0).1)).2.1)), (10, Value.bool ((headS ((fRead d0).1)).2.2)), (22, Value.bool (decide (¬ ((fRead d0).2.2) = 0))), (31, Value.bool (!((headS ((fRead d0).1)).2.2))), (33, Value.int .i64 ((headS ((fRead d0).1)).2.1))]) (fun g => [(111, (g.2.2.2.1)), (109, mone g8 (.cells [Value.int .i64 ((headS ((fRead d0).1)).1.1), Value.int .i64 ((headS ((fRead d0).1)).1.2.1), Value.slice (g.2.1) ((g.1).length) ((g.2.2.1))].toArray 24 (0, 0))), (103, m3), (102, mone g1 (.cells [Value.int .i64 (0), Value.int .i64 (0), Value.slice none (0) (0)].toArray 24 (0, 0))), (0, wm W)]) (fun g => (comGo (headS (fRead d0).1).2.1.toNat d0 [] (fRead d0).2.1 = comGo ((headS (fRead d0).1).2.1.toNat - (g.2.2.2.2.2)) d0 (g.1) (g.2.2.2.2.1)) ∧ (0 ≤ (g.2.2.2.2.1) ∧ (g.2.2.2.2.1) ≤ d0.length) ∧ ((g.2.2.2.2.2) ≤ (headS (fRead d0).1).2.1.toNat) ∧ ((g.1).length = (g.2.2.2.2.2)) ∧ (Ow (.sl TCommit) (g.2.2.2.1) [.slice (g.2.1) (g.1).length (g.2.2.1)] (g.1))) (fun g => (headS (fRead d0).1).2.1.toNat - (g.2.2.2.2.2)) ([], none, 0, mnil, (fRead d0).2.1, 0) (⟨by rfl, by (dsimp only; omega), by (dsimp only; omega), by rfl, (Ow.nil TCommit mnil)⟩) ⟨⟨rfl, rfl, rfl, rfl, rfl, rfl, rfl, rfl, rfl, rfl, rfl, rfl, trivial⟩, fun _ h => h.sub [111, 109, 103, 102, 0]⟩ ?_
      rintro ⟨cs, cs_A, cs_c, cs_m, at_, j⟩ ⟨hp, ha0, hj, hl, h_cs⟩
      replace hp : comGo (headS (fRead d0).1).2.1.toNat d0 [] (fRead d0).2.1 = comGo ((headS (fRead d0).1).2.1.toNat - j) d0 cs at_ := hp
      replace ha0 : 0 ≤ at_ ∧ at_ ≤ d0.length := ha0
      replace hj : j ≤ (headS (fRead d0).1).2.1.toNat := hj
      replace hl : cs.length = j := hl
      replace h_cs : Ow (.sl TCommit) cs_m [.slice cs_A cs.length cs_c] cs := h_cs
      show VC _ _ _ _ _ [(6, Value.int .i64 (at_)), (34, Value.int .i64 (((j : Nat) : Int))), (0, Value.slice A0 (d0.length) (c0)), (2, Value.pointer (some ⟨g1, 0, none⟩)), (5, Value.slice A3_0 (((fRead d0).1).length) (c3_0)), (7, Value.int .i64 ((fRead d0).2.2)), (8, Value.pointer (some ⟨g8, 0, none⟩)), (9, Value.int .i64 ((headS ((fRead d0).1)).2.1)), (10, Value.bool ((headS ((fRead d0).1)).2.2)), (22, Value.bool (decide (¬ ((fRead d0).2.2) = 0))), (31, Value.bool (!((headS ((fRead d0).1)).2.2))), (33, Value.int .i64 ((headS ((fRead d0).1)).2.1))] [(111, cs_m), (109, mone g8 (.cells [Value.int .i64 ((headS ((fRead d0).1)).1.1), Value.int .i64 ((headS ((fRead d0).1)).1.2.1), Value.slice cs_A (cs.length) (cs_c)].toArray 24 (0, 0))), (103, m3), (102, mone g1 (.cells [Value.int .i64 (0), Value.int .i64 (0), Value.slice none (0) (0)].toArray 24 (0, 0))), (0, wm W)]
      have l_cs : cs.length ≤ cs_c := by obtain ⟨_, _, he, hl, _⟩ := h_cs.slice; simp only [Value.slice.injEq] at he; omega
      have k_cs : cs_c ≤ 9223372036854775807 := by obtain ⟨_, _, he, _, hl⟩ := h_cs.slice; simp only [Value.slice.injEq, maxLen] at he hl; omega
      have hr := headS_range (fRead d0).1
      refine VC.rs ?_
      refine VO.y rfl (.lss rfl rfl) ?_
      refine VO.k13 0 2 5 6 7 8 9 10 22 31 33 34 35 ?_
      refine VC.seq ?_
      refine VC.cond rfl (fun hc12 => ?_) (fun hc12 => ?_)
      · -- FFT
        refine VC.skip ?_
        refine outN ?_
        refine VC.seq ?_
        refine VC.block ?_
        refine VC.rs ?_
        refine VO.mv ?_
        refine VO.mv ?_
        obtain ⟨A13, hA13, hs13⟩ := h0.drop 1 ((at_).toNat) rfl (by first | omega | (simp only [List.length_append, List.length_nil, List.length_cons, List.length_take, List.length_drop] at *; omega) | (have h_ := headS_range (fRead d0).1; omega))
        refine VO.y rfl (.slLI ((at_).toNat) A13 rfl rfl tsl25 (by first | omega | (simp only [List.length_append, List.length_nil, List.length_cons, List.length_take, List.length_drop] at *; omega) | (have h_ := headS_range (fRead d0).1; omega)) hA13 (by first | omega | (simp only [List.length_append, List.length_nil, List.length_cons, List.length_take, List.length_drop] at *; omega) | (have h_ := headS_range (fRead d0).1; omega))) ?_
        refine VO.callN 114 rfl fnOk91 rfl (fun W hW => fRead_ok W (Rd.mono hs13 (hW.at (i := 0) rfl))) (fun v14 m14 hv14 => ?_)
        obtain ⟨s14_0, rfl, f14_0⟩ := hv14
        have hfa15 := fRead_bounds (d0.drop ((at_).toNat))
        obtain ⟨A14_0, c14_0, eq14_0, l14_0, k14_0⟩ := f14_0.slice
        subst eq14_0
        simp only [maxLen] at k14_0
        refine VO.mv ?_
        refine VO.y rfl (.ext rfl rfl) ?_
        refine VO.y rfl (.ext rfl rfl) ?_
        refine VO.y rfl (.ext rfl rfl) ?_
        refine VO.as ?_
        refine VO.as ?_
        refine VO.as ?_
        refine VO.k16 0 2 5 6 7 8 9 10 11 12 13 22 31 33 34 35 ?_
        refine VC.seq ?_
        refine VC.rs ?_
        refine VO.mv ?_
        refine VO.y rfl (.neq rfl rfl) ?_
        refine VO.keep [114, 111, 109, 103, 102, 0] [(114, m14), (111, cs_m), (109, mone g8 (.cells [Value.int .i64 ((headS ((fRead d0).1)).1.1), Value.int .i64 ((headS ((fRead d0).1)).1.2.1), Value.slice cs_A (cs.length) (cs_c)].toArray 24 (0, 0))), (103, m3), (102, mone g1 (.cells [Value.int .i64 (0), Value.int .i64 (0), Value.slice none (0) (0)].toArray 24 (0, 0))), (0, wm W)] (by kernel_rfl) ?_
        refine VO.k17 0 2 5 6 7 8 9 10 11 12 13 22 31 33 34 35 45 ?_
        refine VC.cond rfl (fun hc16 => ?_) (fun hc16 => ?_)
        · -- FFTT
          refine VC.rs ?_
          refine VO.y rfl (.bst (cs := [Value.int .i64 (0), Value.int .i64 (0), Value.slice none (0) (0)]) rfl tst24 tz24 rfl) ?_
          refine VO.store (k := 3) (c' := [Value.int .i64 (0), Value.int .i64 (0), Value.slice none (0) (0)]) 102 rfl rfl (.inl tk24) rfl rfl rfl rfl rfl ?_
          refine VO.as ?_
          refine VO.as ?_
          refine VO.k19 0 2 3 4 5 6 7 8 9 10 11 12 13 22 31 33 34 35 45 ?_
          refine VC.ret ?_
          refine outR ?_
          refine outBR ?_
          refine outR ?_
          refine outR ?_
          refine outBR ?_
          refine outR ?_
          refine ⟨_, _, res_run (rs := [.cell 2 24, .tmp 3, .tmp 4]) rfl (.agg 102 rfl tk24 rfl ⟨_, _, _, mone_self _ _, Nat.le_of_ble_eq_true rfl, rfl⟩ (.tmp rfl (.tmp rfl .nil))), fun W_ hI => out_of (l := []) hI [] rfl rfl (mle_refl _) (fun hS_ => ?_)⟩
          dsimp only [packV]
          have he0 : ((secRead d0).1 : Ty.Den TSection) = (0, 0, []) := by first | rfl | (first | (rw [sec_no1 (by assumption)] <;> rfl) | (rw [sec_no2 (by first | assumption | simpa using ‹_›)] <;> rfl) | (rw [sec_no3 (by assumption) (by simp [*]) (com_no1 hp (by omega) (by assumption))] <;> rfl) | (rw [sec_no3 (by assumption) (by simp [*]) (com_no2 hp (by omega) (by assumption) (by assumption))] <;> rfl) | (rw [sec_yes (by assumption) (by simp [*]) (com_end hp (by omega))] <;> first | rfl | (done)))
          refine ⟨[Value.int .i64 (0), Value.int .i64 (0), Value.slice none (0) (0)], ?_, ?_⟩
          rotate_left
          · rw [he0]; exact (mkO_Section 0 0 [] (Seps.nilAt 0 hS_) (by simp only [inK]; (first | omega | (simp only [List.length_append, List.length_nil, List.length_cons, List.length_take, List.length_drop] at *; omega) | (have h_ := headS_range (fRead d0).1; omega))) (by simp only [inK]; (first | omega | (simp only [List.length_append, List.length_nil, List.length_cons, List.length_take, List.length_drop] at *; omega) | (have h_ := headS_range (fRead d0).1; omega))) (Ow.nil _ _))
          all_goals (first | rfl | (first | (rw [sec_no1 (by assumption)] <;> rfl) | (rw [sec_no2 (by first | assumption | simpa using ‹_›)] <;> rfl) | (rw [sec_no3 (by assumption) (by simp [*]) (com_no1 hp (by omega) (by assumption))] <;> rfl) | (rw [sec_no3 (by assumption) (by simp [*]) (com_no2 hp (by omega) (by assumption) (by assumption))] <;> rfl) | (rw [sec_yes (by assumption) (by simp [*]) (com_end hp (by omega))] <;> first | rfl | (done))))
        · -- FFTF
          refine VC.skip ?_
          refine outN ?_
          refine VC.rs ?_
          refine VO.mv ?_
          refine VO.callN 117 rfl fnOk93 rfl (fun W hW => cDecode_ok_ W (OwnL.rd (Ow.ownl f14_0 rfl mnil) (hW.at (i := 114) rfl) (mle_nil _))) (fun v17 m17 hv17 => ?_)
          obtain ⟨s17_0, rfl, f17_0⟩ := hv17
          have hfa18 := cDecode_fits ((fRead (d0.drop ((at_).toNat))).1)
          obtain ⟨q17_0_A2, q17_0_c2, q17_0_n2, rfl, q17_0_S, q17_0_0, q17_0_1, q17_0_2⟩ := openO_Commit (x0 := ((cDecode ((fRead (d0.drop ((at_).toNat))).1)).1).1) (x1 := ((cDecode ((fRead (d0.drop ((at_).toNat))).1)).1).2.1) (x2 := ((cDecode ((fRead (d0.drop ((at_).toNat))).1)).1).2.2) f17_0
          simp only [inK] at q17_0_0
          simp only [inK] at q17_0_1
          have q17_0_r2 := Rd.room (q17_0_2.rd (mle_refl _))
          refine VO.inv _ (fun _ h => h.parts (i := 117) rfl q17_0_S [119]) ?_
          refine VO.mv ?_
          refine VO.y rfl (.ext rfl rfl) ?_
          refine VO.y rfl (.ext rfl rfl) ?_
          refine VO.alloc 121 rfl tz32 (fun g20 => ?_)
          refine VO.store (k := 3) (c' := [Value.int .i64 (((cDecode ((fRead (d0.drop ((at_).toNat))).1)).1).1), Value.int .i64 (((cDecode ((fRead (d0.drop ((at_).toNat))).1)).1).2.1), Value.slice q17_0_A2 ((((cDecode ((fRead (d0.drop ((at_).toNat))).1)).1).2.2).length) (q17_0_c2)]) 121 rfl rfl (.inl tk32) rfl rfl rfl rfl rfl ?_
          refine VO.as ?_
          refine VO.k18 0 2 5 6 7 8 9 10 11 12 13 14 22 31 33 34 35 45 ?_
          refine VC.seq ?_
          refine VC.rs ?_
          refine VO.mv ?_
          refine VO.y rfl (.neq rfl rfl) ?_
          refine VO.k19 0 2 5 6 7 8 9 10 11 12 13 14 22 31 33 34 35 45 53 ?_
          refine VC.cond rfl (fun hc22 => ?_) (fun hc22 => ?_)
          · -- FFTFT
            refine VC.rs ?_
            refine VO.y rfl (.bst (cs := [Value.int .i64 (0), Value.int .i64 (0), Value.slice none (0) (0)]) rfl tst24 tz24 rfl) ?_
            refine VO.store (k := 3) (c' := [Value.int .i64 (0), Value.int .i64 (0), Value.slice none (0) (0)]) 102 rfl rfl (.inl tk24) rfl rfl rfl rfl rfl ?_
            refine VO.as ?_
            refine VO.as ?_
            refine VO.keep [121, 119, 114, 111, 109, 103, 102, 0] [(121, mone g20 (.cells [Value.int .i64 (((cDecode ((fRead (d0.drop ((at_).toNat))).1)).1).1), Value.int .i64 (((cDecode ((fRead (d0.drop ((at_).toNat))).1)).1).2.1), Value.slice q17_0_A2 ((((cDecode ((fRead (d0.drop ((at_).toNat))).1)).1).2.2).length) (q17_0_c2)].toArray 32 (0, 0))), (119, q17_0_n2), (114, m14), (111, cs_m), (109, mone g8 (.cells [Value.int .i64 ((headS ((fRead d0).1)).1.1), Value.int .i64 ((headS ((fRead d0).1)).1.2.1), Value.slice cs_A (cs.length) (cs_c)].toArray 24 (0, 0))), (103, m3), (102, mone g1 (.cells [Value.int .i64 (0), Value.int .i64 (0), Value.slice none (0) (0)].toArray 24 (0, 0))), (0, wm W)] (by kernel_rfl) ?_
            refine VO.k21 0 2 3 4 5 6 7 8 9 10 11 12 13 14 22 31 33 34 35 45 53 ?_
            refine VC.ret ?_
            refine outR ?_
            refine outBR ?_
            refine outR ?_
            refine outR ?_
            refine outBR ?_
            refine outR ?_
            refine ⟨_, _, res_run (rs := [.cell 2 24, .tmp 3, .tmp 4]) rfl (.agg 102 rfl tk24 rfl ⟨_, _, _, mone_self _ _, Nat.le_of_ble_eq_true rfl, rfl⟩ (.tmp rfl (.tmp rfl .nil))), fun W_ hI => out_of (l := []) hI [] rfl rfl (mle_refl _) (fun hS_ => ?_)⟩
            dsimp only [packV]
            have he0 : ((secRead d0).1 : Ty.Den TSection) = (0, 0, []) := by first | rfl | (first | (rw [sec_no1 (by assumption)] <;> rfl) | (rw [sec_no2 (by first | assumption | simpa using ‹_›)] <;> rfl) | (rw [sec_no3 (by assumption) (by simp [*]) (com_no1 hp (by omega) (by assumption))] <;> rfl) | (rw [sec_no3 (by assumption) (by simp [*]) (com_no2 hp (by omega) (by assumption) (by assumption))] <;> rfl) | (rw [sec_yes (by assumption) (by simp [*]) (com_end hp (by omega))] <;> first | rfl | (done)))
            refine ⟨[Value.int .i64 (0), Value.int .i64 (0), Value.slice none (0) (0)], ?_, ?_⟩
            rotate_left
            · rw [he0]; exact (mkO_Section 0 0 [] (Seps.nilAt 0 hS_) (by simp only [inK]; (first | omega | (simp only [List.length_append, List.length_nil, List.length_cons, List.length_take, List.length_drop] at *; omega) | (have h_ := headS_range (fRead d0).1; omega))) (by simp only [inK]; (first | omega | (simp only [List.length_append, List.length_nil, List.length_cons, List.length_take, List.length_drop] at *; omega) | (have h_ := headS_range (fRead d0).1; omega))) (Ow.nil _ _))
            all_goals (first | rfl | (first | (rw [sec_no1 (by assumption)] <;> rfl) | (rw [sec_no2 (by first | assumption | simpa using ‹_›)] <;> rfl) | (rw [sec_no3 (by assumption) (by simp [*]) (com_no1 hp (by omega) (by assumption))] <;> rfl) | (rw [sec_no3 (by assumption) (by simp [*]) (com_no2 hp (by omega) (by assumption) (by assumption))] <;> rfl) | (rw [sec_yes (by assumption) (by simp [*]) (com_end hp (by omega))] <;> first | rfl | (done))))
          · -- FFTFF
            refine VC.skip ?_
            refine outN ?_
            refine VC.reg ?_
            refine VO.y rfl (.fa rfl tst24 rfl) ?_
            refine VO.y rfl (.ld1 109 rfl tk22 rfl (cellsAt_one rfl rfl)) ?_
            refine VO.y rfl (.ldA 121 rfl tk32 rfl (cellsAt_one rfl rfl)) ?_
            refine VO.bsl (cs := [Value.int .i64 (((cDecode ((fRead (d0.drop ((at_).toNat))).1)).1).1), Value.int .i64 (((cDecode ((fRead (d0.drop ((at_).toNat))).1)).1).2.1), Value.slice q17_0_A2 ((((cDecode ((fRead (d0.drop ((at_).toNat))).1)).1).2.2).length) (q17_0_c2)]) 124 rfl rfl tsl22 tz32 rfl rfl (fun g23 => ?_)
            refine VO.appO (e := TCommit) 111 119 124 rfl rfl rfl tsl22 tz32 rfl rfl rfl rfl h_cs (show Ow TCommit _ _ ((cDecode ((fRead (d0.drop ((at_).toNat))).1)).1) from (mkO_Commit (((cDecode ((fRead (d0.drop ((at_).toNat))).1)).1).1) (((cDecode ((fRead (d0.drop ((at_).toNat))).1)).1).2.1) (((cDecode ((fRead (d0.drop ((at_).toNat))).1)).1).2.2) (Seps.one (mle_refl _)) (by simp only [inK]; (first | omega | (simp only [List.length_append, List.length_nil, List.length_cons, List.length_take, List.length_drop] at *; omega) | (have h_ := headS_range (fRead d0).1; omega))) (by simp only [inK]; (first | omega | (simp only [List.length_append, List.length_nil, List.length_cons, List.length_take, List.length_drop] at *; omega) | (have h_ := headS_range (fRead d0).1; omega))) (OwnL.ow (Ow.ownl q17_0_2 rfl mnil) rfl))) Try.underlying22 (cellsAt_one rfl rfl) (by simp only [maxLen]; (first | omega | (simp only [List.length_append, List.length_nil, List.length_cons, List.length_take, List.length_drop] at *; omega) | (have h_ := headS_range (fRead d0).1; omega))) (by first | omega | (simp only [List.length_append, List.length_nil, List.length_cons, List.length_take, List.length_drop] at *; omega) | (have h_ := headS_range (fRead d0).1; omega)) (by decide) (fun v25 m25 ho25 => ?_)
            obtain ⟨A25, c25, rfl, l25, k25⟩ := ho25.slice
            simp only [maxLen] at k25
            refine VO.mv ?_
            refine VO.mv ?_
            refine VO.y rfl (.add rfl rfl rfl ⟨by first | omega | (simp only [List.length_append, List.length_nil, List.length_cons, List.length_take, List.length_drop] at *; omega) | (have h_ := headS_range (fRead d0).1; omega), by first | omega | (simp only [List.length_append, List.length_nil, List.length_cons, List.length_take, List.length_drop] at *; omega) | (have h_ := headS_range (fRead d0).1; omega)⟩) ?_
            refine VO.y rfl (.fa rfl tst24 rfl) ?_
            refine VO.store (k := 1) (c' := [Value.int .i64 ((headS ((fRead d0).1)).1.1), Value.int .i64 ((headS ((fRead d0).1)).1.2.1), Value.slice A25 ((cs ++ [((cDecode ((fRead (d0.drop ((at_).toNat))).1)).1)]).length) (c25)]) 109 rfl rfl (.inr ⟨tk22, rfl⟩) rfl rfl rfl rfl rfl ?_
            refine VO.as ?_
            refine VO.keep [111, 121, 114, 109, 103, 102, 0] [(111, m25), (121, mone g20 (.cells [Value.int .i64 (((cDecode ((fRead (d0.drop ((at_).toNat))).1)).1).1), Value.int .i64 (((cDecode ((fRead (d0.drop ((at_).toNat))).1)).1).2.1), Value.slice q17_0_A2 ((((cDecode ((fRead (d0.drop ((at_).toNat))).1)).1).2.2).length) (q17_0_c2)].toArray 32 (0, 0))), (114, m14), (109, mone g8 (.cells [Value.int .i64 ((headS ((fRead d0).1)).1.1), Value.int .i64 ((headS ((fRead d0).1)).1.2.1), Value.slice A25 ((cs ++ [((cDecode ((fRead (d0.drop ((at_).toNat))).1)).1)]).length) (c25)].toArray 24 (0, 0))), (103, m3), (102, mone g1 (.cells [Value.int .i64 (0), Value.int .i64 (0), Value.slice none (0) (0)].toArray 24 (0, 0))), (0, wm W)] (by kernel_rfl) ?_
            refine VO.k19 0 2 5 6 7 8 9 10 11 12 13 14 22 31 33 34 35 45 53 ?_
            refine outBN ?_
            refine outN ?_
            refine VC.reg ?_
            refine VO.y rfl (.add (c := ((j + 1 : Nat) : Int)) rfl rfl (by omega) ⟨by first | omega | (simp only [List.length_append, List.length_nil, List.length_cons, List.length_take, List.length_drop] at *; omega) | (have h_ := headS_range (fRead d0).1; omega), by first | omega | (simp only [List.length_append, List.length_nil, List.length_cons, List.length_take, List.length_drop] at *; omega) | (have h_ := headS_range (fRead d0).1; omega)⟩) ?_
            refine VO.mv ?_
            refine VO.k19 0 2 5 6 7 8 9 10 11 12 13 14 22 31 33 34 35 45 53 ?_
            exact outN ⟨⟨cs ++ [((cDecode ((fRead (d0.drop ((at_).toNat))).1)).1)], A25, c25, m25, at_ + ((fRead (d0.drop ((at_).toNat))).2.1), j + 1⟩, ⟨by (have h_ := com_next hp (by omega) (by assumption) (by assumption); rw [Nat.sub_sub] at h_; exact h_), by (have h_ := com_read d0 at_ ha0.1 ha0.2; dsimp only; omega), by (dsimp only; omega), by (simp only [List.length_append, List.length_cons, List.length_nil]; omega), ho25⟩, by first | omega | (simp only [List.length_append, List.length_cons, List.length_nil]; omega), ⟨⟨rfl, rfl, rfl, rfl, rfl, rfl, rfl, rfl, rfl, rfl, rfl, rfl, trivial⟩, fun _ h => Inv.sub h [111, 109, 103, 102, 0]⟩⟩
      · -- FFF
        refine VC.exit ?_
        refine outE ?_
        refine outE ?_
        refine outBB ?_
        refine outN ?_
        refine VC.seq ?_
        refine VC.regD _ 7 [(0, true), (1, true), (2, true), (3, false), (4, true), (5, false), (6, true)] follows (by kernel_rfl) (fun _ h => h.sub [111, 109, 103, 0]) ?_
        refine VD.y rfl rfl (.inl rfl) (.ldA 109 rfl tk24 rfl (cellsAt_one rfl rfl)) ?_
        refine VD.y rfl rfl (.inl rfl) (.mv rfl) ?_
        refine VD.y rfl rfl (.inl rfl) (.ldA 109 rfl tk24 rfl (cellsAt_one rfl rfl)) ?_
        refine VD.callN 126 rfl rfl (.inl rfl) fnOk9 rfl (fun _ h => h.sub [111, 109, 103, 0]) (fun W hW => sectCheck_ok W (mk_Section (m := wm W) ((headS ((fRead d0).1)).1.1) ((headS ((fRead d0).1)).1.2.1) cs (by simp only [inK]; (first | omega | (simp only [List.length_append, List.length_nil, List.length_cons, List.length_take, List.length_drop] at *; omega) | (have h_ := headS_range (fRead d0).1; omega))) (by simp only [inK]; (first | omega | (simp only [List.length_append, List.length_nil, List.length_cons, List.length_take, List.length_drop] at *; omega) | (have h_ := headS_range (fRead d0).1; omega))) (Ow.rd h_cs (hW.at (i := 111) rfl)))) (fun v26 m26 hv26 => ?_)
        try dsimp only at hv26
        subst hv26
        have hfa27 := sectCheck_range ((headS ((fRead d0).1)).1.1, (headS ((fRead d0).1)).1.2.1, cs)
        refine VD.y rfl rfl (.inl rfl) (.eql rfl rfl) ?_
        refine VD.store (k := 3) (c' := [Value.int .i64 ((headS ((fRead d0).1)).1.1), Value.int .i64 ((headS ((fRead d0).1)).1.2.1), Value.slice cs_A (cs.length) (cs_c)]) 102 rfl rfl rfl (.inl tk24) rfl rfl rfl rfl rfl (fun _ h => h.sub [111, 109, 103, 0]) ?_
        refine VD.y rfl rfl (.inl rfl) (.as rfl) ?_
        refine VD.nil rfl ?_ rfl
        refine VO.as ?_
        refine VO.k15 0 2 3 4 5 6 7 8 9 10 22 31 33 34 35 ?_
        refine outN ?_
        refine VC.ret ?_
        refine ⟨_, _, res_run (rs := [.cell 2 24, .tmp 3, .tmp 4]) rfl (.agg 102 rfl tk24 rfl ⟨_, _, _, mone_self _ _, Nat.le_of_ble_eq_true rfl, rfl⟩ (.tmp rfl (.tmp rfl .nil))), fun W_ hI => out_of (l := [cs_m]) hI [111] rfl rfl (mle_refl _) (fun hS_ => ?_)⟩
        dsimp only [packV]
        have he0 : ((secRead d0).1 : Ty.Den TSection) = ((headS ((fRead d0).1)).1.1, (headS ((fRead d0).1)).1.2.1, cs) := by first | rfl | (first | (rw [sec_no1 (by assumption)] <;> rfl) | (rw [sec_no2 (by first | assumption | simpa using ‹_›)] <;> rfl) | (rw [sec_no3 (by assumption) (by simp [*]) (com_no1 hp (by omega) (by assumption))] <;> rfl) | (rw [sec_no3 (by assumption) (by simp [*]) (com_no2 hp (by omega) (by assumption) (by assumption))] <;> rfl) | (rw [sec_yes (by assumption) (by simp [*]) (com_end hp (by omega))] <;> first | rfl | (done)))
        refine ⟨[Value.int .i64 ((headS ((fRead d0).1)).1.1), Value.int .i64 ((headS ((fRead d0).1)).1.2.1), Value.slice cs_A (cs.length) (cs_c)], ?_, ?_⟩
        rotate_left
        · rw [he0]; exact (mkO_Section ((headS ((fRead d0).1)).1.1) ((headS ((fRead d0).1)).1.2.1) cs hS_ (by simp only [inK]; (first | omega | (simp only [List.length_append, List.length_nil, List.length_cons, List.length_take, List.length_drop] at *; omega) | (have h_ := headS_range (fRead d0).1; omega))) (by simp only [inK]; (first | omega | (simp only [List.length_append, List.length_nil, List.length_cons, List.length_take, List.length_drop] at *; omega) | (have h_ := headS_range (fRead d0).1; omega))) h_cs)
        all_goals (first | rfl | (first | (rw [sec_no1 (by assumption)] <;> rfl) | (rw [sec_no2 (by first | assumption | simpa using ‹_›)] <;> rfl) | (rw [sec_no3 (by assumption) (by simp [*]) (com_no1 hp (by omega) (by assumption))] <;> rfl) | (rw [sec_no3 (by assumption) (by simp [*]) (com_no2 hp (by omega) (by assumption) (by assumption))] <;> rfl) | (rw [sec_yes (by assumption) (by simp [*]) (com_end hp (by omega))] <;> first | rfl | (done))))
theorem oScan_ok (W : World) {v0 : Value} {d0 : List UInt8} (h0 : Rd (.sl .byte) (wm W) [v0] d0) (e0 : d0.length ≤ 1000000000000) : CallR Try.prog 18 [v0] W (mnil) (fun v m' => ∃ (s0 : Value), v = .tuple #[s0, .int .i64 ((scanF d0).2)] ∧ Ow (.sl TSection) m' [s0] ((scanF d0).1)) := by
  obtain ⟨A0, c0, rfl, l0, k0⟩ := h0.slice
  simp only [maxLen] at k0
  refine CallR.ofA (n := 37) Try.func18 rfl rfl rfl ?_
  refine VC.rs ?_
  refine VO.as ?_
  refine VO.as ?_
  refine VO.k3 0 2 3 ?_
  refine VC.rs ?_
  refine VO.as ?_
  refine VO.k4 0 2 3 4 ?_
  refine VC.rs ?_
  refine VO.as ?_
  refine VO.as ?_
  refine VO.keep [0] [(0, wm W)] (by kernel_rfl) ?_
  refine VO.k6 0 2 3 4 5 6 ?_
  refine VC.block ?_
  refine VC.inv ((101, mnil) :: _) (fun _ h => h.nilc 101) ?_
  refine VC.loop (G := (List DSection) × (Option Addr) × Nat × Mem × Int × Int × Nat) (fun g => [(4, Value.slice (g.2.1) ((g.1).length) ((g.2.2.1))), (5, Value.int .i64 ((g.2.2.2.2.1))), (6, Value.int .i64 ((g.2.2.2.2.2.1))), (0, Value.slice A0 (d0.length) (c0))]) (fun g => [(101, (g.2.2.2.1)), (0, wm W)]) (fun g => (scanF d0 = scanS (g.2.2.2.2.2.2) d0 (g.1) (g.2.2.2.2.1) (g.2.2.2.2.2.1)) ∧ (0 ≤ (g.2.2.2.2.1) ∧ (g.2.2.2.2.1) ≤ d0.length) ∧ ((d0.length : Int) - (g.2.2.2.2.1) ≤ (g.2.2.2.2.2.2)) ∧ (((g.1).length : Int) ≤ (g.2.2.2.2.1)) ∧ (Ow (.sl TSection) (g.2.2.2.1) [.slice (g.2.1) (g.1).length (g.2.2.1)] (g.1))) (fun g => ((d0.length : Int) - (g.2.2.2.2.1)).toNat) ([], none, 0, mnil, 0, 0, d0.length) (⟨by rfl, by (dsimp only; omega), by (dsimp only; omega), by simp, (Ow.nil TSection mnil)⟩) ⟨⟨rfl, rfl, rfl, rfl, trivial⟩, fun _ h => h.sub [101, 0]⟩ ?_
  rintro ⟨out, out_A, out_c, out_m, at_, ep, n⟩ ⟨hp, ha0, hn, hl, h_out⟩
  replace hp : scanF d0 = scanS n d0 out at_ ep := hp
  replace ha0 : 0 ≤ at_ ∧ at_ ≤ d0.length := ha0
  replace hn : (d0.length : Int) - at_ ≤ n := hn
  replace hl : (out.length : Int) ≤ at_ := hl
  replace h_out : Ow (.sl TSection) out_m [.slice out_A out.length out_c] out := h_out
  show VC _ _ _ _ _ [(4, Value.slice out_A (out.length) (out_c)), (5, Value.int .i64 (at_)), (6, Value.int .i64 (ep)), (0, Value.slice A0 (d0.length) (c0))] [(101, out_m), (0, wm W)]
  have l_out : out.length ≤ out_c := by obtain ⟨_, _, he, hl, _⟩ := h_out.slice; simp only [Value.slice.injEq] at he; omega
  have k_out : out_c ≤ 9223372036854775807 := by obtain ⟨_, _, he, _, hl⟩ := h_out.slice; simp only [Value.slice.injEq, maxLen] at he hl; omega
  refine VC.block ?_
  refine VC.rs ?_
  refine VO.mv ?_
  refine VO.mv ?_
  obtain ⟨A2, hA2, hs2⟩ := h0.drop 1 ((at_).toNat) rfl bd
  refine VO.y rfl (.slLI ((at_).toNat) A2 rfl rfl tsl25 bd hA2 bd) ?_
  refine VO.callN 103 rfl fnOk60 rfl (fun W hW => section_ok W (Rd.mono hs2 (hW.at (i := 0) rfl))) (fun v3 m3 hv3 => ?_)
  obtain ⟨s3_0, rfl, f3_0⟩ := hv3
  have hfa4 := secRead_bounds (d0.drop ((at_).toNat))
  obtain ⟨q3_0_A2, q3_0_c2, q3_0_n2, rfl, q3_0_S, q3_0_0, q3_0_1, q3_0_2⟩ := openO_Section (x0 := ((secRead (d0.drop ((at_).toNat))).1).1) (x1 := ((secRead (d0.drop ((at_).toNat))).1).2.1) (x2 := ((secRead (d0.drop ((at_).toNat))).1).2.2) f3_0
  simp only [inK] at q3_0_0
  simp only [inK] at q3_0_1
  have q3_0_r2 := Rd.room (q3_0_2.rd (mle_refl _))
  refine VO.inv _ (fun _ h => h.parts (i := 103) rfl q3_0_S [105]) ?_
  refine VO.mv ?_
  refine VO.y rfl (.ext rfl rfl) ?_
  refine VO.y rfl (.ext rfl rfl) ?_
  refine VO.y rfl (.ext rfl rfl) ?_
  refine VO.alloc 107 rfl tz24 (fun g6 => ?_)
  refine VO.store (k := 3) (c' := [Value.int .i64 (((secRead (d0.drop ((at_).toNat))).1).1), Value.int .i64 (((secRead (d0.drop ((at_).toNat))).1).2.1), Value.slice q3_0_A2 ((((secRead (d0.drop ((at_).toNat))).1).2.2).length) (q3_0_c2)]) 107 rfl rfl (.inl tk24) rfl rfl rfl rfl rfl ?_
  refine VO.as ?_
  refine VO.as ?_
  refine VO.k7 0 4 5 6 7 8 9 ?_
  refine VC.seq ?_
  refine VC.rs ?_
  refine VO.mv ?_
  refine VO.y rfl (.not rfl) ?_
  refine VO.mv ?_
  refine VO.decBN (t := 20) rfl (fun hc8 => ?_) (fun hc8 => ?_)
  · -- T
    refine VO.gN ?_
    refine VO.gN ?_
    refine VO.gN ?_
    refine VO.gN ?_
    refine VO.y rfl (.pT rfl rfl) ?_
    refine VO.k8 0 4 5 6 7 8 9 25 ?_
    refine VC.condT rfl ?_
    refine VC.rs ?_
    refine VO.mv ?_
    refine VO.mv ?_
    refine VO.as ?_
    refine VO.as ?_
    refine VO.keep [107, 105, 101, 0] [(107, mone g6 (.cells [Value.int .i64 (((secRead (d0.drop ((at_).toNat))).1).1), Value.int .i64 (((secRead (d0.drop ((at_).toNat))).1).2.1), Value.slice q3_0_A2 ((((secRead (d0.drop ((at_).toNat))).1).2.2).length) (q3_0_c2)].toArray 24 (0, 0))), (105, q3_0_n2), (101, out_m), (0, wm W)] (by kernel_rfl) ?_
    refine VO.k10 0 2 3 4 5 6 7 8 9 25 ?_
    refine VC.ret ?_
    refine outR ?_
    refine outBR ?_
    refine outR ?_
    refine outBR ?_
    refine ⟨_, _, res_run (rs := [.tmp 2, .tmp 3]) rfl (.tmp rfl (.tmp rfl .nil)), fun W_ hI => out_of (l := [out_m]) hI [101] rfl rfl (mle_refl _) (fun hS_ => ?_)⟩
    dsimp only [packV]
    have he0 : ((scanF d0).1 : Ty.Den (.sl TSection)) = out := by first | rfl | (first | (rw [show scanF d0 = _ from scan_end hp (.inl (by first | assumption | simpa using ‹_›))]; done) | (rw [show scanF d0 = _ from scan_end hp (.inr (by omega))]; done))
    refine ⟨Value.slice out_A (out.length) (out_c), ?_, ?_⟩
    rotate_left
    · rw [he0]; exact (Ow.up h_out (hS_.1 _ (.head _)))
    all_goals (first | rfl | (first | (rw [show scanF d0 = _ from scan_end hp (.inl (by first | assumption | simpa using ‹_›))]; done) | (rw [show scanF d0 = _ from scan_end hp (.inr (by omega))]; done)))
  · -- F
    refine VO.gy rfl ⟨_, rfl, rfl⟩ (.fa rfl tst24 rfl) ?_
    refine VO.gy rfl ⟨_, rfl, rfl⟩ (.ld1 107 rfl tk3 rfl (cellsAt_one rfl rfl)) ?_
    refine VO.gy rfl ⟨_, rfl, rfl⟩ (.mv rfl) ?_
    refine VO.gy rfl ⟨_, rfl, rfl⟩ (.leq rfl rfl) ?_
    refine VO.y rfl (.pF rfl rfl) ?_
    refine VO.k8 0 4 5 6 7 8 9 25 ?_
    refine VC.cond rfl (fun hc9 => ?_) (fun hc9 => ?_)
    · -- FT
      refine VC.rs ?_
      refine VO.mv ?_
      refine VO.mv ?_
      refine VO.as ?_
      refine VO.as ?_
      refine VO.keep [107, 105, 101, 0] [(107, mone g6 (.cells [Value.int .i64 (((secRead (d0.drop ((at_).toNat))).1).1), Value.int .i64 (((secRead (d0.drop ((at_).toNat))).1).2.1), Value.slice q3_0_A2 ((((secRead (d0.drop ((at_).toNat))).1).2.2).length) (q3_0_c2)].toArray 24 (0, 0))), (105, q3_0_n2), (101, out_m), (0, wm W)] (by kernel_rfl) ?_
      refine VO.k10 0 2 3 4 5 6 7 8 9 25 ?_
      refine VC.ret ?_
      refine outR ?_
      refine outBR ?_
      refine outR ?_
      refine outBR ?_
      refine ⟨_, _, res_run (rs := [.tmp 2, .tmp 3]) rfl (.tmp rfl (.tmp rfl .nil)), fun W_ hI => out_of (l := [out_m]) hI [101] rfl rfl (mle_refl _) (fun hS_ => ?_)⟩
      dsimp only [packV]
      have he0 : ((scanF d0).1 : Ty.Den (.sl TSection)) = out := by first | rfl | (first | (rw [show scanF d0 = _ from scan_end hp (.inl (by first | assumption | simpa using ‹_›))]; done) | (rw [show scanF d0 = _ from scan_end hp (.inr (by omega))]; done))
      refine ⟨Value.slice out_A (out.length) (out_c), ?_, ?_⟩
      rotate_left
      · rw [he0]; exact (Ow.up h_out (hS_.1 _ (.head _)))
      all_goals (first | rfl | (first | (rw [show scanF d0 = _ from scan_end hp (.inl (by first | assumption | simpa using ‹_›))]; done) | (rw [show scanF d0 = _ from scan_end hp (.inr (by omega))]; done)))
    · -- FF
      refine VC.skip ?_
      refine outN ?_
      refine VC.regD _ 11 [(0, true), (1, true), (4, true), (5, true), (6, true), (7, true), (8, true), (2, false), (3, false), (9, true), (10, true)] follows (by kernel_rfl) (fun _ h => h.sub [107, 0]) ?_
      refine VD.y rfl rfl (.inl rfl) (.mv rfl) ?_
      refine VD.y rfl rfl (.inl rfl) (.ldA 107 rfl tk24 rfl (cellsAt_one rfl rfl)) ?_
      refine VD.y rfl rfl (.inl rfl) (.mv rfl) ?_
      refine VD.y rfl rfl (.inl rfl) (.mv rfl) ?_
      refine VD.y rfl rfl (.inl rfl) (.add rfl rfl rfl ⟨bd, bd⟩) ?_
      refine VD.y rfl rfl (.inl rfl) (.fa rfl tst24 rfl) ?_
      refine VD.y rfl rfl (.inl rfl) (.ld1 107 rfl tk3 rfl (cellsAt_one rfl rfl)) ?_
      refine VD.bsl (cs := [Value.int .i64 (((secRead (d0.drop ((at_).toNat))).1).1), Value.int .i64 (((secRead (d0.drop ((at_).toNat))).1).2.1), Value.slice q3_0_A2 ((((secRead (d0.drop ((at_).toNat))).1).2.2).length) (q3_0_c2)]) 111 rfl rfl rfl tsl41 tz24 rfl rfl (fun _ h => h.sub [107, 0]) (fun g10 => ?_)
      refine VD.appO (e := TSection) 101 105 111 rfl rfl rfl rfl tsl41 tz24 rfl rfl rfl rfl h_out (show Ow TSection _ _ ((secRead (d0.drop ((at_).toNat))).1) from (mkO_Section (((secRead (d0.drop ((at_).toNat))).1).1) (((secRead (d0.drop ((at_).toNat))).1).2.1) (((secRead (d0.drop ((at_).toNat))).1).2.2) (Seps.one (mle_refl _)) bdk bdk q3_0_2)) Try.underlying41 (cellsAt_one rfl rfl) bdm bd (by decide) (fun _ _ h => h.sub [107, 0]) (fun v12 m12 ho12 => ?_)
      obtain ⟨A12, c12, rfl, l12, k12⟩ := ho12.slice
      simp only [maxLen] at k12
      refine VD.y rfl rfl (.inl rfl) (.as rfl) ?_
      refine VD.y rfl rfl (.inl rfl) (.as rfl) ?_
      refine VD.nil rfl ?_ rfl
      refine VO.as ?_
      refine VO.keep [101, 107, 0] [(101, m12), (107, mone g6 (.cells [Value.int .i64 (((secRead (d0.drop ((at_).toNat))).1).1), Value.int .i64 (((secRead (d0.drop ((at_).toNat))).1).2.1), Value.slice q3_0_A2 ((((secRead (d0.drop ((at_).toNat))).1).2.2).length) (q3_0_c2)].toArray 24 (0, 0))), (0, wm W)] (by kernel_rfl) ?_
      refine VO.k8 0 4 5 6 7 8 9 25 ?_
      refine outBN ?_
      exact outN ⟨⟨out ++ [((secRead (d0.drop ((at_).toNat))).1)], A12, c12, m12, at_ + ((secRead (d0.drop ((at_).toNat))).2.1), ((secRead (d0.drop ((at_).toNat))).1).1, n - 1⟩, ⟨by exact scan_next hp ha0.1 hn (by simp [*]) (by omega), by (have h_ := sec_at d0 ha0.1 ha0.2; dsimp only; omega), by (have h_ := (secRead_bounds (d0.drop at_.toNat)).2.2.1 (by simp [*]); dsimp only; omega), by (have h_ := (secRead_bounds (d0.drop at_.toNat)).2.2.1 (by simp [*]); simp only [List.length_append, List.length_cons, List.length_nil]; omega), ho12⟩, by (have h_ := (secRead_bounds (d0.drop at_.toNat)).2.2.1 (by simp [*]); have h2_ := sec_at d0 ha0.1 ha0.2; dsimp only; omega), ⟨⟨rfl, rfl, rfl, rfl, trivial⟩, fun _ h => Inv.sub h [101, 0]⟩⟩
end
section
set_option linter.unusedVariables false
/-- file by file a front part -/
def leQ (p q : Dur) : Prop := ∀ f : Int, inF f → getF p f <+: getF q f
theorem leQ.refl (q : Dur) : leQ q q := fun f _ => List.prefix_refl _
theorem leQ.trans {p q r : Dur} (h : leQ p q) (h' : leQ q r) : leQ p r := fun f hf => (h f hf).trans (h' f hf)
theorem le_step {q : Dur} {s : DStep} (h : s.1 = 0) (hf : inF s.2.1) : leQ q (stepQ q s) := fun f h2 => by
  rw [stepQ, get_set hf h2]
  split
  · rename_i e; subst e; rw [doneB, if_pos h]; exact List.prefix_append _ _
  · exact List.prefix_refl _
theorem le_play : ∀ {l : List DStep} {q : Dur}, (∀ s ∈ l, s.1 = 0 ∧ inF s.2.1) → leQ q (play q l)
  | [], q, _ => leQ.refl q
  | s :: l, q, h => (le_step (h s (.head _)).1 (h s (.head _)).2).trans (le_play fun s hs => h s (.tail _ hs))
theorem le_torn {q : Dur} {s : DStep} (h : s.1 = 0) (hf : inF s.2.1) (n : Nat) : leQ (stepQ q (s.1, s.2.1, s.2.2.1.take n, s.2.2.2)) (stepQ q s) := fun f h2 => by
  rw [stepQ, stepQ, get_set hf h2, get_set hf h2]
  split
  · rename_i e; subst e
    rw [doneB, doneB, if_pos h, if_pos h]
    exact (List.prefix_append_right_inj _).2 (List.take_prefix _ _)
  · exact List.prefix_refl _
theorem onn_right {d : DDisk} (h : Onn d) : wrongD d = 0 := by unfold wrongD; rw [if_neg (by rw [h.made]; decide), if_neg (by rw [h.on]; decide)]
theorem onn_burn {d : DDisk} (h : Onn d) : burnD d = ((d.1, d.2.1, d.2.2.1, d.2.2.2.1, d.2.2.2.2.1 + 1, d.2.2.2.2.2), true) := by unfold burnD; rw [if_neg (by rw [h.has]; decide)]
theorem set_set {q : Dur} {f : Int} {a b : Bytes} : setF (setF q f a) f b = setF q f b := by
  unfold setF; split
  · rfl
  · split
    · rfl
    · split <;> rfl
theorem set_get {q : Dur} {f : Int} : setF q f (getF q f) = q := by
  unfold setF getF; split
  · rfl
  · split
    · rfl
    · split <;> rfl
/-- a disk behind its start -/
structure Pe (d : DDisk) (A S : Dur) : Prop where
  on : Onn d
  lo : leQ S d.2.2.2.2.2.1
  hi : leQ d.2.2.2.2.2.1 A
  none : d.2.2.2.2.2.2 = []
def begB (b a : Bytes) : Prop := a.length ≤ b.length ∧ b.take a.length = a
instance (b a : Bytes) : Decidable (begB b a) := by unfold begB; infer_instance
end
section
set_option linter.unusedVariables false
/-- what the files hold -/
def curD (d : DDisk) : Dur := play d.2.2.2.2.2.1 d.2.2.2.2.2.2
theorem cur_held {d : DDisk} {f : Int} (h : okD d) (hf : inF f) : heldB d.2.2.2.2.2.1 d.2.2.2.2.2.2 f = getF (curD d) f := (play_held h.1 hf).symm
theorem cur_add (d : DDisk) (s : DStep) : curD (addP d s) = stepQ (curD d) s := by
  show play d.2.2.2.2.2.1 (d.2.2.2.2.2.2 ++ [s]) = _
  rw [play, List.foldl_append]; rfl
theorem cur_burn (d : DDisk) : curD (burnD d).1 = curD d := by unfold curD; rw [(burn_same d).2]
theorem dur_burn (d : DDisk) : (burnD d).1.2.2.2.2.2.1 = d.2.2.2.2.2.1 := by rw [(burn_same d).2]
theorem made_burn (d : DDisk) : (burnD d).1.1 = d.1 := (burn_same d).1
section
variable {d : DDisk} {f n base : Int} {b : Bytes} {s : DSection}
theorem on_durable (h : Onn d) (hf : inF f) : dDurable d f = getF d.2.2.2.2.2.1 f := durable_go (by rw [h.made]; decide) (Decidable.not_not.2 hf)
theorem on_go (hf : inF f) : ∀ (k : Nat) {d : DDisk} {b : Bytes}, b.length ≤ k → Onn d → (writeGo k d f b).2 = 0 ∧ Onn (writeGo k d f b).1 ∧ curD (writeGo k d f b).1 = setF (curD d) f (getF (curD d) f ++ b) ∧ (writeGo k d f b).1.2.2.2.2.2.1 = d.2.2.2.2.2.1
  | 0, d, b, hk, h => by
    rw [List.eq_nil_of_length_eq_zero (Nat.le_zero.1 hk), List.append_nil, set_get]; exact ⟨rfl, h, rfl, rfl⟩
  | k + 1, d, b, hk, h => by
    unfold writeGo
    split
    · rename_i h0
      rw [List.eq_nil_of_length_eq_zero h0, List.append_nil, set_get]; exact ⟨rfl, h, rfl, rfl⟩
    · rename_i h0
      rw [if_pos (by rw [onn_burn h])]
      have e1 : b.take 64 = b.take (min b.length 64) := by
        by_cases h0 : b.length ≤ 64
        · rw [Nat.min_eq_left h0, List.take_of_length_le h0, List.take_of_length_le (Nat.le_refl _)]
        · rw [Nat.min_eq_right (by omega)]
      have hs := step_ok (m := min b.length 64) h.ok hf (by omega) rfl
      rw [← e1] at hs
      have ho : Onn (addP (burnD d).1 (0, f, b.take 64, 0)) := by
        rw [onn_burn h] at hs ⊢; exact ⟨hs, h.made, h.on, h.has⟩
      obtain ⟨k1, k2, k3, k4⟩ := on_go hf k (b := b.drop 64) (by simp only [List.length_drop]; omega) ho
      refine ⟨k1, k2, ?_, by rw [k4]; exact dur_burn d⟩
      rw [k3, cur_add, cur_burn, stepQ, get_set hf hf, if_pos rfl, set_set, doneB, if_pos rfl, List.append_assoc, List.take_append_drop]
theorem on_write (h : Onn d) (hf : inF f) : (dWrite d f b).2 = 0 ∧ Onn (dWrite d f b).1 ∧ curD (dWrite d f b).1 = setF (curD d) f (getF (curD d) f ++ b) ∧ (dWrite d f b).1.2.2.2.2.2.1 = d.2.2.2.2.2.1 := by
  rw [write_go (by rw [onn_right h]; decide) (Decidable.not_not.2 hf)]
  exact on_go hf _ (Nat.le_refl _) h
theorem on_cut (h : Onn d) (hf : inF f) (hn : 0 ≤ n) (hl : n ≤ (getF (curD d) f).length) : (dCut d f n).2 = 0 ∧ Onn (dCut d f n).1 ∧ curD (dCut d f n).1 = setF (curD d) f ((getF (curD d) f).take n.toNat) ∧ (dCut d f n).1.2.2.2.2.2.1 = d.2.2.2.2.2.1 := by
  have hk := cut_ok (f := f) (n := n) h.ok
  have e : dCut d f n = (addP (burnD d).1 (1, f, [], n), 0) := cut_go (by rw [onn_right h]; decide) (Decidable.not_not.2 hf) (by omega) (by rw [cur_held h.ok hf]; omega) (by rw [onn_burn h]; simp)
  rw [e] at hk ⊢
  refine ⟨rfl, ?_, ?_, dur_burn d⟩
  · rw [onn_burn h] at hk ⊢; exact ⟨hk, h.made, h.on, h.has⟩
  · rw [cur_add, cur_burn]; rfl
theorem on_sync (h : Onn d) : (dSync d).2 = 0 ∧ Onn (dSync d).1 ∧ (dSync d).1.2.2.2.2.2.1 = curD d ∧ (dSync d).1.2.2.2.2.2.2 = [] := by
  obtain ⟨h1, h2, h3⟩ := onn_sync h
  have e : dSync d = (settleD (burnD d).1 (burnD d).1.2.2.2.2.2.2.length, 0) := sync_go (by rw [onn_right h]; decide) (by rw [onn_burn h]; simp)
  refine ⟨h1, h2, ?_, ?_⟩ <;> rw [e, onn_burn h]
  · show play d.2.2.2.2.2.1 (d.2.2.2.2.2.2.take d.2.2.2.2.2.2.length) = _
    rw [List.take_length]; rfl
  · show d.2.2.2.2.2.2.drop d.2.2.2.2.2.2.length = []
    rw [List.drop_length]
theorem cur_none (h : d.2.2.2.2.2.2 = []) : curD d = d.2.2.2.2.2.1 := by unfold curD; rw [h]; rfl
theorem on_trim (h : Onn d) (hf : inF f) (hn : 0 ≤ n) (hl : n ≤ (getF (curD d) f).length) : (trimD d f n).2 = 0 ∧ Onn (trimD d f n).1 ∧ curD (trimD d f n).1 = setF (curD d) f ((getF (curD d) f).take n.toNat) ∧ (trimD d f n).1.2.2.2.2.2.1 = d.2.2.2.2.2.1 := by
  unfold trimD
  rw [cur_held h.ok hf]
  split
  · exact on_cut h hf hn hl
  · rw [List.take_of_length_le (by omega), set_get]; exact ⟨rfl, h, rfl, rfl⟩
theorem on_put (h : Onn d) (hf : inF f) : (putD d f b).2 = 0 ∧ Onn (putD d f b).1 ∧ (putD d f b).1.2.2.2.2.2.1 = setF (curD d) f (getF (curD d) f ++ b) ∧ (putD d f b).1.2.2.2.2.2.2 = [] := by
  obtain ⟨w1, w2, w3, w4⟩ := on_write (b := b) h hf
  obtain ⟨s1, s2, s3, s4⟩ := on_sync w2
  unfold putD
  rw [if_neg (fun q => q w1)]
  exact ⟨s1, s2, by rw [s3, w3], s4⟩
theorem on_orph (h : Onn d) (hs : sectCheck s = 0) (hb : 0 ≤ base) (hl : base ≤ (getF (curD d) 3).length) : (orphW d base s).2 = 0 ∧ Onn (orphW d base s).1 ∧ (orphW d base s).1.2.2.2.2.2.1 = setF (curD d) 3 ((getF (curD d) 3).take base.toNat ++ sectEnc s) ∧ (orphW d base s).1.2.2.2.2.2.2 = [] := by
  obtain ⟨t1, t2, t3, t4⟩ := on_trim (f := 3) h (by decide) hb hl
  obtain ⟨p1, p2, p3, p4⟩ := on_put (f := 3) (b := sectEnc s) t2 (by decide)
  have e : orphW d base s = putD (trimD d 3 base).1 3 (sectEnc s) := by
    unfold orphW
    rw [if_neg (by rw [onn_right h]; decide), if_neg (by rw [hs]; decide), if_neg (by rw [cur_held h.ok (by decide)]; omega), if_neg (fun q => q t1)]
  rw [e]
  refine ⟨p1, p2, ?_, p4⟩
  rw [p3, t3, get_set (by decide) (by decide), if_pos rfl, set_set]
end
/-- a disk, on or off, with or without a fuse, to which there were only writes since it was synced -/
structure Pg (d : DDisk) (A S : Dur) : Prop where
  ok : okD d
  made : d.1 = true
  all : ∀ s ∈ d.2.2.2.2.2.2, s.1 = 0 ∧ inF s.2.1
  dur : d.2.2.2.2.2.1 = S
  ends : curD d = A
section
variable {d : DDisk} {A S : Dur} {f n k t : Int} {b : Bytes}
theorem Pg.right (h : Pg d A S) (ho : d.2.1 = false) : wrongD d = 0 := by unfold wrongD; rw [if_neg (by rw [h.made]; decide), if_neg (by rw [ho]; decide)]
theorem pg_none (h : Onn d) (hn : d.2.2.2.2.2.2 = []) : Pg d d.2.2.2.2.2.1 d.2.2.2.2.2.1 := ⟨h.ok, h.made, (by rw [hn]; intro s q; cases q), rfl, cur_none hn⟩
theorem burn_cases (d : DDisk) : ((burnD d).2 = true ∧ (burnD d).1.2.1 = d.2.1) ∨ ((burnD d).2 = false ∧ (burnD d).1.2.1 = true) := by
  unfold burnD
  split
  · split
    · exact .inr ⟨rfl, rfl⟩
    · exact .inl ⟨rfl, rfl⟩
  · exact .inl ⟨rfl, rfl⟩
theorem Pg.burn (h : Pg d A S) : Pg (burnD d).1 A S := ⟨burn_ok h.ok, by rw [made_burn]; exact h.made, by rw [(burn_same d).2]; exact h.all, by rw [dur_burn]; exact h.dur, by rw [cur_burn]; exact h.ends⟩
theorem pg_go (hf : inF f) : ∀ (k : Nat) {d : DDisk} {A : Dur} {b : Bytes}, b.length ≤ k → Pg d A S → d.2.1 = false →
    ∃ p, p <+: b ∧ Pg (writeGo k d f b).1 (setF A f (getF A f ++ p)) S ∧ (((writeGo k d f b).2 = 0 ∧ p = b ∧ (writeGo k d f b).1.2.1 = false) ∨ ((writeGo k d f b).2 = 6 ∧ (writeGo k d f b).1.2.1 = true))
  | 0, d, A, b, hk, h, ho => by
    obtain rfl := List.eq_nil_of_length_eq_zero (Nat.le_zero.1 hk)
    exact ⟨[], List.prefix_refl _, by rw [List.append_nil, set_get]; exact h, .inl ⟨rfl, rfl, ho⟩⟩
  | k + 1, d, A, b, hk, h, ho => by
    unfold writeGo
    split
    · rename_i h0
      obtain rfl := List.eq_nil_of_length_eq_zero h0
      exact ⟨[], List.prefix_refl _, by rw [List.append_nil, set_get]; exact h, .inl ⟨rfl, rfl, ho⟩⟩
    · rename_i h0
      rcases burn_cases d with ⟨hb, hb2⟩ | ⟨hb, hb2⟩
      · rw [if_pos hb]
        have e1 : b.take 64 = b.take (min b.length 64) := by
          by_cases h0 : b.length ≤ 64
          · rw [Nat.min_eq_left h0, List.take_of_length_le h0, List.take_of_length_le (Nat.le_refl _)]
          · rw [Nat.min_eq_right (by omega)]
        have hs := step_ok (m := min b.length 64) h.ok hf (by omega) rfl
        rw [← e1] at hs
        have hb3 := h.burn
        have hA : Pg (addP (burnD d).1 (0, f, b.take 64, 0)) (setF A f (getF A f ++ b.take 64)) S := by
          refine ⟨hs, hb3.made, fun s hs' => ?_, hb3.dur, ?_⟩
          · rcases List.mem_append.1 hs' with q | q
            · exact hb3.all s q
            · simp only [List.mem_cons, List.not_mem_nil, or_false] at q; subst q; exact ⟨rfl, hf⟩
          · rw [cur_add, hb3.ends]; rfl
        obtain ⟨p, k1, k2, k3⟩ := pg_go hf k (b := b.drop 64) (by simp only [List.length_drop]; omega) hA (hb2.trans ho)
        refine ⟨b.take 64 ++ p, ?_, ?_, ?_⟩
        · obtain ⟨q, hq⟩ := k1
          exact ⟨q, by rw [List.append_assoc, hq, List.take_append_drop]⟩
        · rw [get_set hf hf, if_pos rfl, set_set, List.append_assoc] at k2; exact k2
        · rcases k3 with ⟨q1, q2, q3⟩ | q
          · exact .inl ⟨q1, by rw [q2, List.take_append_drop], q3⟩
          · exact .inr q
      · rw [if_neg (by rw [hb]; decide)]
        exact ⟨[], List.nil_prefix, by rw [List.append_nil, set_get]; exact h.burn, .inr ⟨rfl, hb2⟩⟩
theorem pg_write (h : Pg d A S) (ho : d.2.1 = false) (hf : inF f) :
    ∃ p, p <+: b ∧ Pg (dWrite d f b).1 (setF A f (getF A f ++ p)) S ∧ (((dWrite d f b).2 = 0 ∧ p = b ∧ (dWrite d f b).1.2.1 = false) ∨ ((dWrite d f b).2 = 6 ∧ (dWrite d f b).1.2.1 = true)) := by
  rw [write_go (by rw [h.right ho]; decide) (Decidable.not_not.2 hf)]
  exact pg_go hf _ (Nat.le_refl _) h ho
theorem pg_sync (h : Pg d A S) (ho : d.2.1 = false) : ((dSync d).2 = 0 ∧ Pg (dSync d).1 A A ∧ (dSync d).1.2.1 = false ∧ (dSync d).1.2.2.2.2.2.2 = []) ∨ ((dSync d).2 = 6 ∧ Pg (dSync d).1 A S ∧ (dSync d).1.2.1 = true) := by
  have hk := sync_ok h.ok
  have hb := h.burn
  rcases burn_cases d with ⟨b1, b2⟩ | ⟨b1, b2⟩
  · left
    rw [sync_go (by rw [h.right ho]; decide) (by rw [b1]; simp)] at hk ⊢
    have e : (settleD (burnD d).1 (burnD d).1.2.2.2.2.2.2.length).2.2.2.2.2.2 = [] := List.drop_length
    have e2 : (settleD (burnD d).1 (burnD d).1.2.2.2.2.2.2.length).2.2.2.2.2.1 = A := by
      show play (burnD d).1.2.2.2.2.2.1 ((burnD d).1.2.2.2.2.2.2.take (burnD d).1.2.2.2.2.2.2.length) = A
      rw [List.take_length]; exact hb.ends
    exact ⟨rfl, ⟨hk, hb.made, (by rw [e]; intro s q; cases q), e2, by rw [cur_none e]; exact e2⟩, b2.trans ho, e⟩
  · right
    rw [sync_off (by rw [h.right ho]; decide) (by rw [b1]; decide)] at hk ⊢
    exact ⟨rfl, hb, b2⟩
theorem pg_fuse (h : Pg d A S) (ho : d.2.1 = false) (hn : 0 ≤ n) : (dFuse d n).2 = 0 ∧ Pg (dFuse d n).1 A S ∧ (dFuse d n).1.2.1 = false := by
  have hk := fuse_ok (n := n) h.ok
  unfold dFuse at hk ⊢
  rw [if_neg (by rw [h.right ho]; decide), if_neg (by omega)] at hk ⊢
  exact ⟨rfl, ⟨hk, h.made, h.all, h.dur, h.ends⟩, ho⟩
theorem pg_pull (h : Pg d A S) (ho : d.2.1 = false) : (dPull d).2 = 0 ∧ Pg (dPull d).1 A S ∧ (dPull d).1.2.1 = true := by
  have hk := pull_ok h.ok
  unfold dPull at hk ⊢
  rw [if_neg (by rw [h.right ho]; decide)] at hk ⊢
  exact ⟨rfl, ⟨hk, h.made, h.all, h.dur, h.ends⟩, rfl⟩
theorem pg_start (h : Pg d A S) (ho : d.2.1 = true) (hk : 0 ≤ k) (ht : 0 ≤ t) : (dStart d k t).2 = 0 ∧ Pe (dStart d k t).1 A S := by
  have ho' := start_ok (k := k) (t := t) h.ok
  rw [start_go (by rw [h.made]; decide) ho (by omega) (by omega)] at ho' ⊢
  have hA : play S d.2.2.2.2.2.2 = A := by have := h.ends; unfold curD at this; rw [h.dur] at this; exact this
  refine ⟨rfl, ⟨ho', h.made, rfl, rfl⟩, ?_, ?_, rfl⟩
  · show leQ S (tornQ (settleD d (min k d.2.2.2.2.2.2.length).toNat) t)
    generalize (min k d.2.2.2.2.2.2.length).toNat = n
    have h1 : leQ S (play S (d.2.2.2.2.2.2.take n)) := le_play fun s hs => h.all s (List.mem_of_mem_take hs)
    have e1 : (settleD d n).2.2.2.2.2.1 = play S (d.2.2.2.2.2.2.take n) := by show play d.2.2.2.2.2.1 _ = _; rw [h.dur]
    have e2 : (settleD d n).2.2.2.2.2.2 = d.2.2.2.2.2.2.drop n := rfl
    unfold tornQ
    rw [e1, e2]
    split
    · exact h1
    · rename_i s r hl
      have hs := h.all s (List.mem_of_mem_drop (by rw [hl]; exact List.mem_cons_self))
      rw [if_pos hs.1]
      exact h1.trans (le_step hs.1 hs.2)
  · show leQ (tornQ (settleD d (min k d.2.2.2.2.2.2.length).toNat) t) A
    generalize (min k d.2.2.2.2.2.2.length).toNat = n
    have e1 : (settleD d n).2.2.2.2.2.1 = play S (d.2.2.2.2.2.2.take n) := by show play d.2.2.2.2.2.1 _ = _; rw [h.dur]
    have e2 : (settleD d n).2.2.2.2.2.2 = d.2.2.2.2.2.2.drop n := rfl
    have hA2 : A = play (play S (d.2.2.2.2.2.2.take n)) (d.2.2.2.2.2.2.drop n) := by
      rw [← hA]
      conv => lhs; rw [← List.take_append_drop n d.2.2.2.2.2.2, play, List.foldl_append]
      rfl
    have hr : ∀ s ∈ d.2.2.2.2.2.2.drop n, s.1 = 0 ∧ inF s.2.1 := fun s hs => h.all s (List.mem_of_mem_drop hs)
    unfold tornQ
    rw [e1, e2]
    split
    · rename_i hl; rw [hA2, hl]; exact leQ.refl _
    · rename_i s r hl
      rw [hl] at hr hA2
      have hs := hr s (.head _)
      rw [if_pos hs.1, hA2]
      exact (le_torn hs.1 hs.2 _).trans (le_play (q := stepQ _ s) fun s hs => hr s (.tail _ hs))
theorem pe_pf {d : DDisk} {A S : Dur} (h : Pe d A S) : curD d = d.2.2.2.2.2.1 := cur_none h.none
theorem prefix_split {a b c : Bytes} (h1 : a <+: b) (h2 : b <+: a ++ c) : ∃ p, b = a ++ p ∧ p <+: c := by
  obtain ⟨p, rfl⟩ := h1
  exact ⟨p, rfl, (List.prefix_append_right_inj a).1 h2⟩
end
end
section
set_option linter.unusedVariables false
def Tw (d : DDisk) (r : DRDisk) : Prop := okD d ∧ fromR r = d
theorem Tw.keep {d d' : DDisk} {r : DRDisk} {x : Int} (h : Tw d r) (hk : okD d') (hn : nf d') : Tw d' (toR d' x) := ⟨hk, from_to hk hn⟩
theorem Tw.nf {d : DDisk} {r : DRDisk} (h : Tw d r) : nf d := by rw [← h.2]; exact nf_from r
section
variable {d : DDisk} {r : DRDisk} (h : Tw d r)
include h
theorem Tw.fuse {n : Int} : Tw (dFuse d n).1 (toR (dFuse (fromR r) n).1 r.2.2.2.2.2.1) ∧ (dFuse (fromR r) n).2 = (dFuse d n).2 := by rw [h.2]; exact ⟨h.keep (fuse_ok h.1) (nf_fuse h.nf), rfl⟩
theorem Tw.start {k t : Int} : Tw (dStart d k t).1 (toR (dStart (fromR r) k t).1 r.2.2.2.2.2.1) ∧ (dStart (fromR r) k t).2 = (dStart d k t).2 := by rw [h.2]; exact ⟨h.keep (start_ok h.1) (nf_start h.nf), rfl⟩
end
end
section
set_option linter.unusedVariables false
def riseS : Int → List DSection → Prop
  | _, [] => True
  | ep, s :: l => sectCheck s = 0 ∧ ep < s.1 ∧ riseS s.1 l
def sectEncs (l : List DSection) : Bytes := (l.map sectEnc).flatten
theorem lastEp_cons (ep : Int) (s : DSection) (l : List DSection) : lastEp ep (s :: l) = lastEp s.1 l := by
  unfold lastEp
  cases l with
  | nil => rfl
  | cons x r => rw [List.getLast?_cons_cons]; cases h : (x :: r).getLast? with
    | none => simp at h
    | some y => rfl
theorem sectEncs_cons (s : DSection) (l : List DSection) : sectEncs (s :: l) = sectEnc s ++ sectEncs l := rfl
theorem sectEncs_app (l r : List DSection) : sectEncs (l ++ r) = sectEncs l ++ sectEncs r := by simp [sectEncs]
theorem rise_app : ∀ {l r : List DSection} {ep : Int}, riseS ep (l ++ r) ↔ riseS ep l ∧ riseS (lastEp ep l) r
  | [], r, ep => by simp [riseS, lastEp]
  | s :: l, r, ep => by
    rw [lastEp_cons]
    show sectCheck s = 0 ∧ ep < s.1 ∧ riseS s.1 (l ++ r) ↔ (sectCheck s = 0 ∧ ep < s.1 ∧ riseS s.1 l) ∧ _
    rw [rise_app (l := l)]
    exact ⟨fun ⟨a, b, c, d⟩ => ⟨⟨a, b, c⟩, d⟩, fun ⟨⟨a, b, c⟩, d⟩ => ⟨a, b, c, d⟩⟩
theorem rise_snoc {l : List DSection} {k : Nat} {s : DSection} {ep : Int} (h : riseS ep (l.take k)) (hx : l[k]? = some s) (hs : sectCheck s = 0) (he : lastEp ep (l.take k) < s.1) : riseS ep (l.take (k + 1)) ∧ lastEp ep (l.take (k + 1)) = s.1 ∧ sectEncs (l.take (k + 1)) = sectEncs (l.take k) ++ sectEnc s := by
  rw [take_one hx]
  refine ⟨rise_app.2 ⟨h, hs, he, trivial⟩, ?_, ?_⟩
  · unfold lastEp; rw [List.getLast?_append]; rfl
  · rw [sectEncs_app]; simp [sectEncs]
theorem rise_checks : ∀ {l : List DSection} {ep : Int}, riseS ep l → ∀ s ∈ l, sectCheck s = 0
  | x :: l, ep, h, s, hs => by
    rcases List.mem_cons.1 hs with rfl | hs
    · exact h.1
    · exact rise_checks h.2.2 s hs
theorem scan_rise : ∀ {l : List DSection} {B r : Bytes} {out : List DSection} {a k : Nat} {ep : Int}, riseS ep l → B.drop a = sectEncs l ++ r → B.length - a ≤ k → (secRead r).2.2 = false → scanS k B out (a : Int) ep = (out ++ l, ((a + (sectEncs l).length : Nat) : Int))
  | [], B, r, out, a, k, ep, _, hd, hk, hr => by
    have hd' : B.drop (a : Int).toNat = r := by rw [Int.toNat_natCast, hd]; rfl
    rw [scan_end rfl (.inl (by rw [hd']; exact hr))]
    simp [sectEncs]
  | s :: l, B, r, out, a, k, ep, h, hd, hk, hr => by
    obtain ⟨h1, h2, h3⟩ := h
    rw [sectEncs_cons, List.append_assoc] at hd
    have hd' : secRead (B.drop (a : Int).toNat) = (s, ((sectEnc s).length : Int), true) := by rw [Int.toNat_natCast, hd]; exact secRead_there h1 _
    have hl := congrArg List.length hd
    have hp := (sectEnc_len h1).2.2
    simp only [List.length_drop, List.length_append] at hl
    rw [scan_next rfl (Int.natCast_nonneg _) (by omega) (by rw [hd']; simp) (by rw [hd']; dsimp only; omega), hd']
    dsimp only
    have hn : B.drop (a + (sectEnc s).length) = sectEncs l ++ r := by rw [← List.drop_drop, hd, List.drop_left]
    rw [← Int.natCast_add, scan_rise h3 hn (by omega) hr, sectEncs_cons]
    simp [Nat.add_assoc]
theorem scan_whole {l : List DSection} {r : Bytes} (h : riseS 0 l) (hr : (secRead r).2.2 = false) : scanF (sectEncs l ++ r) = (l, ((sectEncs l).length : Int)) := by
  have := scan_rise (B := sectEncs l ++ r) (out := []) (a := 0) (k := (sectEncs l ++ r).length) h rfl (by simp) hr
  unfold scanF
  rw [show ((0 : Nat) : Int) = 0 from rfl] at this
  rw [this]; simp
theorem sec_cut {s : DSection} {p : Bytes} (hs : sectCheck s = 0) (hp : p <+: sectEnc s) (hl : p.length < (sectEnc s).length) : (secRead p).2.2 = false := by
  cases hb : (secRead p).2.2 with
  | false => rfl
  | true =>
    exfalso
    obtain ⟨h1, h2, h3⟩ := secRead_back hb
    obtain ⟨q, hq⟩ := hp
    have e1 := secRead_there hs []
    have e2 := secRead_there h1 (p.drop (secRead p).2.1.toNat ++ q)
    rw [← List.append_assoc, ← h2, hq] at e2
    rw [List.append_nil, e2] at e1
    have e3 := congrArg Prod.fst e1
    dsimp only at e3
    have hl2 := congrArg List.length h2
    rw [List.length_append, e3] at hl2
    omega
theorem sec_nil : (secRead []).2.2 = false := by
  have h := fRead_bounds []
  have : ¬ (fRead []).2.2 = 0 := fun q => by have h1 := h.2.2.2.2.1 q; have h2 := h.2.1; simp only [List.length_nil] at h2; omega
  rw [sec_no1 this]
theorem torn_scan {l : List DSection} {n at_ : Nat} (h : riseS 0 l) (hn : n ≤ l.length) (hg : (sectEncs (l.take n)).length ≤ at_) (hat : at_ ≤ (sectEncs l).length) (hx : n = l.length ∨ at_ < (sectEncs (l.take (n + 1))).length) :
    scanF ((sectEncs l).take at_) = (l.take n, ((sectEncs (l.take n)).length : Int)) := by
  have hs : riseS 0 (l.take n) := by rw [← List.take_append_drop n l, rise_app] at h; exact h.1
  have e : sectEncs l = sectEncs (l.take n) ++ sectEncs (l.drop n) := by rw [← sectEncs_app, List.take_append_drop]
  have e2 : (sectEncs l).take at_ = sectEncs (l.take n) ++ (sectEncs (l.drop n)).take (at_ - (sectEncs (l.take n)).length) := by
    rw [e, List.take_append, List.take_of_length_le hg]
  rw [e2]
  refine scan_whole hs ?_
  by_cases h0 : n = l.length
  · rw [List.drop_of_length_le (by omega)]; simp only [sectEncs, List.map_nil, List.flatten_nil, List.take_nil]; exact sec_nil
  · obtain ⟨s, hs2⟩ : ∃ s, l[n]? = some s := ⟨_, List.getElem?_eq_getElem (by omega)⟩
    have h1 := hx.resolve_left h0
    rw [take_one hs2, sectEncs_app, List.length_append] at h1
    have h2 : (sectEncs [s]).length = (sectEnc s).length := by simp [sectEncs]
    rw [drop_next hs2, sectEncs_cons, List.take_append_of_le_length (by omega)]
    exact sec_cut (rise_checks h s (List.mem_of_getElem? hs2)) (List.take_prefix _ _) (by rw [List.length_take]; omega)
def smallS (s : DSection) : Prop := (∀ c ∈ s.2.2, c.2.2.length ≤ 40) ∧ s.2.2.length ≤ 40
instance (s : DSection) : Decidable (smallS s) := by unfold smallS; infer_instance
theorem sects_len : ∀ {l : List DSection}, (∀ s ∈ l, sectCheck s = 0 ∧ smallS s) → (sectEncs l).length ≤ 28440 * l.length
  | [], _ => by simp [sectEncs]
  | s :: l, h => by
    have h1 := (sectEnc_len (h s (.head _)).1).1
    have h2 := (h s (.head _)).2.2
    have h3 := sects_len (l := l) fun x hx => h x (.tail _ hx)
    rw [sectEncs_cons]
    simp only [List.length_append, List.length_cons]; omega
structure Ag (d : DDisk) (X E : Bytes) : Prop where
  pg : ∃ A S, Pg d A S ∧ X <+: getF S 3 ∧ getF A 3 <+: X ++ E
section
variable {d : DDisk} {X : Bytes} {s : DSection} {base n k t : Int}
theorem ag_first (hX : X.length ≤ 1000000000) : (dWrite newD 3 X).2 = 0 ∧ (dSync (dWrite newD 3 X).1).2 = 0 ∧ Onn (dSync (dWrite newD 3 X).1).1 ∧ (dSync (dWrite newD 3 X).1).1.2.2.2.2.2.1 = ([], [], [], X) ∧ (dSync (dWrite newD 3 X).1).1.2.2.2.2.2.2 = [] := by
  have h0 : Onn newD := ⟨okD_new, rfl, rfl, rfl⟩
  obtain ⟨w1, w2, w3, w4⟩ := on_write (f := 3) (b := X) h0 (by decide)
  obtain ⟨s1, s2, s3, s4⟩ := on_sync w2
  refine ⟨w1, s1, s2, ?_, s4⟩
  rw [s3, w3]; rfl
theorem ag_orph {A : Dur} (h : Pg d A A) (ho : d.2.1 = false) (hs : sectCheck s = 0) (hb : base = (getF A 3).length) :
    (((orphW d base s).2 = 0 ∧ (orphW d base s).1.2.1 = false) ∨ ((orphW d base s).2 = 6 ∧ (orphW d base s).1.2.1 = true)) ∧ Ag (orphW d base s).1 (getF A 3) (sectEnc s) ∧ (orphW d base s).1.1 = true := by
  have hw := h.right ho
  have hh : heldB d.2.2.2.2.2.1 d.2.2.2.2.2.2 3 = getF A 3 := by rw [cur_held h.ok (by decide), h.ends]
  have ht : trimD d 3 base = (d, 0) := by unfold trimD; rw [hh, if_neg (by omega)]
  have e : orphW d base s = putD d 3 (sectEnc s) := by
    unfold orphW
    rw [if_neg (by rw [hw]; decide), if_neg (by rw [hs]; decide), if_neg (by rw [hh]; omega), ht, if_neg (fun q => q rfl)]
  rw [e]
  obtain ⟨p, p1, p2, p3⟩ := pg_write (b := sectEnc s) h ho (f := 3) (by decide)
  have hA : getF (setF A 3 (getF A 3 ++ p)) 3 <+: getF A 3 ++ sectEnc s := by
    rw [get_set (by decide) (by decide), if_pos rfl]; exact (List.prefix_append_right_inj _).2 p1
  unfold putD
  rcases p3 with ⟨q1, q2, q3⟩ | ⟨q1, q3⟩
  · rw [if_neg (fun q => q q1)]
    rcases pg_sync p2 q3 with ⟨r1, r2, r3, _⟩ | ⟨r1, r2, r3⟩
    · refine ⟨.inl ⟨r1, r3⟩, ⟨⟨_, _, r2, ?_, hA⟩⟩, r2.made⟩
      rw [get_set (by decide) (by decide), if_pos rfl]; exact List.prefix_append _ _
    · exact ⟨.inr ⟨r1, r3⟩, ⟨⟨_, _, r2, List.prefix_refl _, hA⟩⟩, r2.made⟩
  · rw [if_pos (by rw [q1]; decide)]
    exact ⟨.inr ⟨q1, q3⟩, ⟨⟨_, _, p2, List.prefix_refl _, hA⟩⟩, p2.made⟩
theorem ag_pull {E : Bytes} (h : Ag d X E) (ho : d.2.1 = false) : (dPull d).2 = 0 ∧ Ag (dPull d).1 X E ∧ (dPull d).1.2.1 = true := by
  obtain ⟨A, S, h1, h2, h3⟩ := h.pg
  obtain ⟨p1, p2, p3⟩ := pg_pull h1 ho
  exact ⟨p1, ⟨A, S, p2, h2, h3⟩, p3⟩
theorem ag_start (h : Ag d X (sectEnc s)) (ho : d.2.1 = true) (hk : 0 ≤ k) (ht : 0 ≤ t) (hs : sectCheck s = 0) (hb : base = X.length) :
    (dStart d k t).2 = 0 ∧ (orphW (dStart d k t).1 base s).2 = 0 ∧ dDurable (orphW (dStart d k t).1 base s).1 3 = X ++ sectEnc s := by
  obtain ⟨A, S, h1, h2, h3⟩ := h.pg
  obtain ⟨p1, p2⟩ := pg_start h1 ho hk ht
  have l1 := h2.trans (p2.lo 3 (by decide))
  have l2 := (p2.hi 3 (by decide)).trans h3
  obtain ⟨p, e, _⟩ := prefix_split l1 l2
  have hc := pe_pf p2
  obtain ⟨o1, o2, o3, o4⟩ := on_orph (base := base) p2.on hs (by omega) (by rw [hc, e, hb, List.length_append]; omega)
  refine ⟨p1, o1, ?_⟩
  rw [on_durable o2 (by decide), o3, get_set (by decide) (by decide), if_pos rfl, hc, e, hb, Int.toNat_natCast, List.take_left]
end
end
section
set_option linter.unusedVariables false
set_option linter.unusedSimpArgs false
set_option maxRecDepth 4000
theorem fnOk16 : fnOk Try.prog 16 = true := by kernel_rfl
theorem fnOk18 : fnOk Try.prog 18 = true := by kernel_rfl
theorem fnOk35 : fnOk Try.prog 35 = true := by kernel_rfl
theorem fnOk37 : fnOk Try.prog 37 = true := by kernel_rfl
theorem fnOk71 : fnOk Try.prog 71 = true := by kernel_rfl
theorem fnOk72 : fnOk Try.prog 72 = true := by kernel_rfl
theorem fnOk63 : fnOk Try.prog 63 = true := by kernel_rfl
theorem SameSections_ok (W : World) {v0 : Value} {d0 : List DSection} (h0 : Rd (.sl TSection) (wm W) [v0] d0) {v1 : Value} {d1 : List DSection} (h1 : Rd (.sl TSection) (wm W) [v1] d1) : CallR Try.prog 22 [v0, v1] W (mnil) (fun v m' => v = .bool (decide (d0 = d1))) := by
  obtain ⟨A0, c0, rfl, l0, k0⟩ := h0.slice
  simp only [maxLen] at k0
  obtain ⟨A1, c1, rfl, l1, k1⟩ := h1.slice
  simp only [maxLen] at k1
  refine CallR.ofA (n := 55) Try.func22 rfl rfl rfl ?_
  refine VC.rs ?_
  refine VO.as ?_
  refine VO.k3 0 1 4 ?_
  refine VC.seq ?_
  refine VC.rs ?_
  refine VO.mv ?_
  refine VO.y rfl (.lenS rfl tsl41) ?_
  refine VO.mv ?_
  refine VO.y rfl (.lenS rfl tsl41) ?_
  refine VO.y rfl (.neq rfl rfl) ?_
  refine VO.k4 0 1 4 10 ?_
  refine VC.cond rfl (fun hc1 => ?_) (fun hc1 => ?_)
  · -- T
    refine VC.rs ?_
    refine VO.as ?_
    refine VO.keep [0] [(0, wm W)] (by kernel_rfl) ?_
    refine VO.k4 0 1 4 10 ?_
    refine VC.ret ?_
    refine outR ?_
    refine ⟨_, _, res_run (rs := [.tmp 4]) rfl (.tmp rfl .nil), fun W_ hI => out_of (l := []) hI [] rfl rfl (mle_refl _) (fun hS_ => ?_)⟩
    dsimp only [packV]
    all_goals (first | rfl | (simp [len_ne hc1]))
  · -- F
    refine VC.skip ?_
    refine outN ?_
    refine VC.seq ?_
    refine VC.rs ?_
    refine VO.as ?_
    refine VO.keep [0] [(0, wm W)] (by kernel_rfl) ?_
    refine VO.k5 0 1 4 5 10 ?_
    refine VC.block ?_
    refine VC.loop (G := Nat) (fun k => [(5, Value.int .i64 (((k : Nat) : Int))), (0, Value.slice A0 (d0.length) (c0)), (1, Value.slice A1 (d1.length) (c1)), (10, Value.bool (decide (¬ ((d0.length : Nat) : Int) = ((d1.length : Nat) : Int))))]) (fun k => [(0, wm W)]) (fun k => (k ≤ d0.length) ∧ (d0.take k = d1.take k)) (fun k => d0.length - k) 0 (⟨by omega, by rfl⟩) ⟨⟨rfl, rfl, rfl, rfl, trivial⟩, fun _ h => h.sub [0]⟩ ?_
    rintro k ⟨hk, ht⟩
    refine VC.seq ?_
    refine VC.rs ?_
    refine VO.mv ?_
    refine VO.mv ?_
    refine VO.y rfl (.lenS rfl tsl41) ?_
    refine VO.y rfl (.lss rfl rfl) ?_
    refine VO.k5 0 1 5 10 14 ?_
    refine VC.cond rfl (fun hc2 => ?_) (fun hc2 => ?_)
    · -- FT
      refine VC.skip ?_
      refine outN ?_
      refine VC.seq ?_
      refine VC.block ?_
      refine VC.seq ?_
      refine VC.regD _ 35 [(0, true), (1, true), (2, true), (3, true), (4, true), (5, true), (6, true), (7, true), (8, true), (9, true), (10, true), (11, true), (12, true), (13, true), (14, true), (15, true), (16, true), (17, true), (18, true), (19, true), (20, true), (21, true), (22, true), (23, true), (24, true), (25, true), (26, true), (27, true), (28, true), (29, true), (30, true), (31, true), (32, true), (33, true), (34, true)] follows (by kernel_rfl) (fun _ h => h.sub [0]) ?_
      refine VD.y rfl rfl (.inl rfl) (.mv rfl) ?_
      refine VD.y rfl rfl (.inl rfl) (.mv rfl) ?_
      obtain ⟨x3, hx3⟩ : ∃ z_, (d0)[k]? = some z_ := ⟨_, List.getElem?_eq_getElem bd⟩
      obtain ⟨gg3, oo3, ec3, ea3, hce3, hre3⟩ := h0.elem hx3
      cases ea3
      obtain ⟨q3_A2, q3_c2, rfl, q3_0, q3_1, q3_2⟩ := open_Section (x0 := x3.1) (x1 := x3.2.1) (x2 := x3.2.2) hre3
      simp only [inK] at q3_0
      simp only [inK] at q3_1
      have q3_r2 := Rd.room q3_2
      refine VD.y rfl rfl (.inl rfl) (.ixI k rfl rfl tsl41 rfl bd) ?_
      refine VD.y rfl rfl (.inl rfl) (.fa rfl tst24 rfl) ?_
      refine VD.y rfl rfl (.inl rfl) (.ld1 0 rfl tk3 rfl (hce3.at1 (j := 0) rfl)) ?_
      refine VD.y rfl rfl (.inl rfl) (.mv rfl) ?_
      refine VD.y rfl rfl (.inl rfl) (.mv rfl) ?_
      obtain ⟨x4, hx4⟩ : ∃ z_, (d1)[k]? = some z_ := ⟨_, List.getElem?_eq_getElem bd⟩
      obtain ⟨gg4, oo4, ec4, ea4, hce4, hre4⟩ := h1.elem hx4
      cases ea4
      obtain ⟨q4_A2, q4_c2, rfl, q4_0, q4_1, q4_2⟩ := open_Section (x0 := x4.1) (x1 := x4.2.1) (x2 := x4.2.2) hre4
      simp only [inK] at q4_0
      simp only [inK] at q4_1
      have q4_r2 := Rd.room q4_2
      refine VD.y rfl rfl (.inl rfl) (.ixI k rfl rfl tsl41 rfl bd) ?_
      refine VD.y rfl rfl (.inl rfl) (.fa rfl tst24 rfl) ?_
      refine VD.y rfl rfl (.inl rfl) (.ld1 0 rfl tk3 rfl (hce4.at1 (j := 0) rfl)) ?_
      refine VD.y rfl rfl (.inl rfl) (.neq rfl rfl) ?_
      refine VD.y rfl rfl (.inl rfl) (.mv rfl) ?_
      refine VD.dec (s := 28) rfl (fun hc5 => ?_) (fun hc5 => ?_)
      · -- FTT
        refine VD.gn rfl rfl (.inl ⟨_, rfl, rfl⟩) ?_
        refine VD.gn rfl rfl (.inl ⟨_, rfl, rfl⟩) ?_
        refine VD.gn rfl rfl (.inl ⟨_, rfl, rfl⟩) ?_
        refine VD.gn rfl rfl (.inl ⟨_, rfl, rfl⟩) ?_
        refine VD.gn rfl rfl (.inl ⟨_, rfl, rfl⟩) ?_
        refine VD.gn rfl rfl (.inl ⟨_, rfl, rfl⟩) ?_
        refine VD.gn rfl rfl (.inl ⟨_, rfl, rfl⟩) ?_
        refine VD.gn rfl rfl (.inl ⟨_, rfl, rfl⟩) ?_
        refine VD.gn rfl rfl (.inl ⟨_, rfl, rfl⟩) ?_
        refine VD.gn rfl rfl (.inl ⟨_, rfl, rfl⟩) ?_
        refine VD.gn rfl rfl (.inl ⟨_, rfl, rfl⟩) ?_
        refine VD.y rfl rfl (.inl rfl) (.pT rfl rfl) ?_
        refine VD.y rfl rfl (.inl rfl) (.mv rfl) ?_
        refine VD.gn rfl rfl (.inl ⟨_, rfl, rfl⟩) ?_
        refine VD.gn rfl rfl (.inl ⟨_, rfl, rfl⟩) ?_
        refine VD.gn rfl rfl (.inl ⟨_, rfl, rfl⟩) ?_
        refine VD.gn rfl rfl (.inl ⟨_, rfl, rfl⟩) ?_
        refine VD.gn rfl rfl (.inl ⟨_, rfl, rfl⟩) ?_
        refine VD.gn rfl rfl (.inl ⟨_, rfl, rfl⟩) ?_
        refine VD.gn rfl rfl (.inl ⟨_, rfl, rfl⟩) ?_
        refine VD.gn rfl rfl (.inl ⟨_, rfl, rfl⟩) ?_
        refine VD.gn rfl rfl (.inl ⟨_, rfl, rfl⟩) ?_
        refine VD.gn rfl rfl (.inl ⟨_, rfl, rfl⟩) ?_
        refine VD.nil rfl ?_ rfl
        refine VO.gN ?_
        refine VO.gN ?_
        refine VO.y rfl (.pT rfl rfl) ?_
        refine VO.k6 0 1 5 10 14 54 ?_
        refine outN ?_
        refine VC.condT rfl ?_
        refine VC.rs ?_
        refine VO.as ?_
        refine VO.keep [0] [(0, wm W)] (by kernel_rfl) ?_
        refine VO.k7 0 1 4 5 10 14 54 ?_
        refine VC.ret ?_
        refine outBR ?_
        refine outR ?_
        refine outR ?_
        refine outBR ?_
        refine outR ?_
        refine ⟨_, _, res_run (rs := [.tmp 4]) rfl (.tmp rfl .nil), fun W_ hI => out_of (l := []) hI [] rfl rfl (mle_refl _) (fun hS_ => ?_)⟩
        dsimp only [packV]
        all_goals (first | rfl | (exact congrArg Value.bool (decide_eq_false (get_ne ‹d0[k]? = some _› ‹d1[k]? = some _› (fun e => by subst e; first | exact absurd rfl ‹¬ _ = _› | omega))).symm))
      · -- FTF
        refine VD.y rfl rfl (.inr ⟨_, _, rfl, _, rfl, rfl⟩) (.mv rfl) ?_
        refine VD.y rfl rfl (.inr ⟨_, _, rfl, _, rfl, rfl⟩) (.mv rfl) ?_
        refine VD.y rfl rfl (.inr ⟨_, _, rfl, _, rfl, rfl⟩) (.ixI k rfl rfl tsl41 rfl bd) ?_
        refine VD.y rfl rfl (.inr ⟨_, _, rfl, _, rfl, rfl⟩) (.fa rfl tst24 rfl) ?_
        refine VD.y rfl rfl (.inr ⟨_, _, rfl, _, rfl, rfl⟩) (.ld1 0 rfl tk3 rfl (hce3.at1 (j := 1) rfl)) ?_
        refine VD.y rfl rfl (.inr ⟨_, _, rfl, _, rfl, rfl⟩) (.mv rfl) ?_
        refine VD.y rfl rfl (.inr ⟨_, _, rfl, _, rfl, rfl⟩) (.mv rfl) ?_
        refine VD.y rfl rfl (.inr ⟨_, _, rfl, _, rfl, rfl⟩) (.ixI k rfl rfl tsl41 rfl bd) ?_
        refine VD.y rfl rfl (.inr ⟨_, _, rfl, _, rfl, rfl⟩) (.fa rfl tst24 rfl) ?_
        refine VD.y rfl rfl (.inr ⟨_, _, rfl, _, rfl, rfl⟩) (.ld1 0 rfl tk3 rfl (hce4.at1 (j := 1) rfl)) ?_
        refine VD.y rfl rfl (.inr ⟨_, _, rfl, _, rfl, rfl⟩) (.neq rfl rfl) ?_
        refine VD.y rfl rfl (.inl rfl) (.pF rfl rfl) ?_
        refine VD.y rfl rfl (.inl rfl) (.mv rfl) ?_
        refine VD.dec (s := 41) rfl (fun hc8 => ?_) (fun hc8 => ?_)
        · -- FTFT
          refine VD.gn rfl rfl (.inl ⟨_, rfl, rfl⟩) ?_
          refine VD.gn rfl rfl (.inl ⟨_, rfl, rfl⟩) ?_
          refine VD.gn rfl rfl (.inl ⟨_, rfl, rfl⟩) ?_
          refine VD.gn rfl rfl (.inl ⟨_, rfl, rfl⟩) ?_
          refine VD.gn rfl rfl (.inl ⟨_, rfl, rfl⟩) ?_
          refine VD.gn rfl rfl (.inl ⟨_, rfl, rfl⟩) ?_
          refine VD.gn rfl rfl (.inl ⟨_, rfl, rfl⟩) ?_
          refine VD.gn rfl rfl (.inl ⟨_, rfl, rfl⟩) ?_
          refine VD.gn rfl rfl (.inl ⟨_, rfl, rfl⟩) ?_
          refine VD.gn rfl rfl (.inl ⟨_, rfl, rfl⟩) ?_
          refine VD.nil rfl ?_ rfl
          refine VO.gN ?_
          refine VO.gN ?_
          refine VO.y rfl (.pT rfl rfl) ?_
          refine VO.k6 0 1 5 10 14 54 ?_
          refine outN ?_
          refine VC.condT rfl ?_
          refine VC.rs ?_
          refine VO.as ?_
          refine VO.keep [0] [(0, wm W)] (by kernel_rfl) ?_
          refine VO.k7 0 1 4 5 10 14 54 ?_
          refine VC.ret ?_
          refine outBR ?_
          refine outR ?_
          refine outR ?_
          refine outBR ?_
          refine outR ?_
          refine ⟨_, _, res_run (rs := [.tmp 4]) rfl (.tmp rfl .nil), fun W_ hI => out_of (l := []) hI [] rfl rfl (mle_refl _) (fun hS_ => ?_)⟩
          dsimp only [packV]
          all_goals (first | rfl | (exact congrArg Value.bool (decide_eq_false (get_ne ‹d0[k]? = some _› ‹d1[k]? = some _› (fun e => by subst e; first | exact absurd rfl ‹¬ _ = _› | omega))).symm))
        · -- FTFF
          refine VD.y rfl rfl (.inr ⟨_, _, rfl, _, rfl, rfl⟩) (.mv rfl) ?_
          refine VD.y rfl rfl (.inr ⟨_, _, rfl, _, rfl, rfl⟩) (.mv rfl) ?_
          refine VD.y rfl rfl (.inr ⟨_, _, rfl, _, rfl, rfl⟩) (.ixI k rfl rfl tsl41 rfl bd) ?_
          refine VD.y rfl rfl (.inr ⟨_, _, rfl, _, rfl, rfl⟩) (.fa rfl tst24 rfl) ?_
          refine VD.y rfl rfl (.inr ⟨_, _, rfl, _, rfl, rfl⟩) (.ld1 0 rfl tk22 rfl (hce3.at1 (j := 2) rfl)) ?_
          refine VD.y rfl rfl (.inr ⟨_, _, rfl, _, rfl, rfl⟩) (.mv rfl) ?_
          refine VD.y rfl rfl (.inr ⟨_, _, rfl, _, rfl, rfl⟩) (.mv rfl) ?_
          refine VD.y rfl rfl (.inr ⟨_, _, rfl, _, rfl, rfl⟩) (.ixI k rfl rfl tsl41 rfl bd) ?_
          refine VD.y rfl rfl (.inr ⟨_, _, rfl, _, rfl, rfl⟩) (.fa rfl tst24 rfl) ?_
          refine VD.y rfl rfl (.inr ⟨_, _, rfl, _, rfl, rfl⟩) (.ld1 0 rfl tk22 rfl (hce4.at1 (j := 2) rfl)) ?_
          refine VD.nil rfl ?_ rfl
          refine VO.gcallN 111 rfl ⟨_, rfl, rfl⟩ fnOk63 rfl (fun W hW => SameCommits_ok W (Rd.mono q3_2 (hW.at (i := 0) rfl)) (Rd.mono q4_2 (hW.at (i := 0) rfl))) (fun v11 m11 hv11 => ?_)
          subst hv11
          refine VO.gy rfl ⟨_, rfl, rfl⟩ (.notD rfl) ?_
          refine VO.y rfl (.pF rfl rfl) ?_
          refine VO.k6 0 1 5 10 14 54 ?_
          refine outN ?_
          refine VC.cond rfl (fun hc12 => ?_) (fun hc12 => ?_)
          · -- FTFFT
            refine VC.rs ?_
            refine VO.as ?_
            refine VO.keep [0] [(0, wm W)] (by kernel_rfl) ?_
            refine VO.k7 0 1 4 5 10 14 54 ?_
            refine VC.ret ?_
            refine outBR ?_
            refine outR ?_
            refine outR ?_
            refine outBR ?_
            refine outR ?_
            refine ⟨_, _, res_run (rs := [.tmp 4]) rfl (.tmp rfl .nil), fun W_ hI => out_of (l := []) hI [] rfl rfl (mle_refl _) (fun hS_ => ?_)⟩
            dsimp only [packV]
            all_goals (first | rfl | (exact congrArg Value.bool (decide_eq_false (get_ne ‹d0[k]? = some _› ‹d1[k]? = some _› (fun e => by subst e; first | exact absurd rfl ‹¬ _ = _› | omega))).symm))
          · -- FTFFF
            refine VC.skip ?_
            refine outBN ?_
            refine outN ?_
            refine VC.reg ?_
            refine VO.mv ?_
            refine VO.y rfl (.add (c := ((k + 1 : Nat) : Int)) rfl rfl (by omega) ⟨bd, bd⟩) ?_
            refine VO.as ?_
            refine VO.keep [0] [(0, wm W)] (by kernel_rfl) ?_
            refine VO.k6 0 1 5 10 14 54 ?_
            exact outN ⟨k + 1, ⟨by omega, by exact take_next ht ‹d0[k]? = some _› ‹d1[k]? = some _› (Prod.ext (by omega) (Prod.ext (by omega) (Decidable.not_not.1 (by assumption))))⟩, bd, ⟨⟨rfl, rfl, rfl, rfl, trivial⟩, fun _ h => Inv.sub h [0]⟩⟩
    · -- FF
      refine VC.exit ?_
      refine outE ?_
      refine outE ?_
      refine outBB ?_
      refine outN ?_
      refine VC.rs ?_
      refine VO.as ?_
      refine VO.k6 0 1 4 5 10 14 ?_
      refine VC.ret ?_
      refine ⟨_, _, res_run (rs := [.tmp 4]) rfl (.tmp rfl .nil), fun W_ hI => out_of (l := []) hI [] rfl rfl (mle_refl _) (fun hS_ => ?_)⟩
      dsimp only [packV]
      all_goals (first | rfl | (simp [take_all ht (by omega) (by omega)]))
theorem oWrite_ok (W : World) {m0 : Mem} (hm : mle (m0) (wm W)) {g0 : Nat} {d0 : DdiskDisk} (h0 : Ow (.ptr TdiskDisk) m0 [.pointer (some ⟨g0, 0, none⟩)] (g0, d0)) (d1 : Int) (h1 : inK .i64 d1) {v2 : List Value} {d2 : DSection} (h2 : Rd TSection (mout (wm W) (m0)) v2 d2) (e0 : okD d0) (e1 : wD d0 ≤ 100000000000) : CallR Try.prog 29 [.pointer (some ⟨g0, 0, none⟩), .int .i64 d1, .agg v2.toArray] W (m0) (fun v m' => v = .int .i64 ((orphW d0 d1 d2).2) ∧ Ow (.ptr TdiskDisk) m' [.pointer (some ⟨g0, 0, none⟩)] (g0, (orphW d0 d1 d2).1)) := by
  have h1' := h1; simp only [inK] at h1'
  obtain ⟨p2_A2, p2_c2, rfl, p2_0, p2_1, p2_2⟩ := open_Section (x0 := d2.1) (x1 := d2.2.1) (x2 := d2.2.2) h2
  simp only [inK] at p2_0
  simp only [inK] at p2_1
  have p2_r2 := Rd.room p2_2
  refine CallR.ofB (n := 54) hm Try.func29 rfl rfl rfl ?_
  refine VC.rs ?_
  refine VO.box (cs := [Value.int .i64 (d2.1), Value.int .i64 (d2.2.1), Value.slice p2_A2 (d2.2.2.length) (p2_c2)]) 102 rfl rfl rfl (fun g1 => ?_)
  refine VO.as ?_
  refine VO.k5 0 1 2 5 6 ?_
  refine VC.rs ?_
  refine VO.mv ?_
  refine VO.call 1 rfl fnOk71 rfl rfl (fun W hW => dRead_ok W (hW.at (i := 1) rfl) h0 3 bdk (by assumption) bd) (fun v3 m3 hv3 => ?_)
  obtain ⟨s3_0, p3_0, p3_1, rfl, hS3, f3_0, w3_0⟩ := hv3
  refine VO.inv _ (fun _ h => h.parts (i := 1) rfl hS3 [104, 105]) ?_
  have hfa6 := (read_size d0 3)
  obtain ⟨A3_0, c3_0, eq3_0, l3_0, k3_0⟩ := f3_0.slice
  subst eq3_0
  simp only [maxLen] at k3_0
  refine VO.mv ?_
  refine VO.y rfl (.ext rfl rfl) ?_
  refine VO.y rfl (.ext rfl rfl) ?_
  refine VO.as ?_
  refine VO.as ?_
  refine VO.k7 0 1 2 5 6 7 8 ?_
  refine VC.seq ?_
  refine VC.rs ?_
  refine VO.mv ?_
  refine VO.y rfl (.neq rfl rfl) ?_
  refine VO.keep [104, 105, 102, 0] [(104, p3_0), (105, p3_1), (102, mone g1 (.cells [Value.int .i64 (d2.1), Value.int .i64 (d2.2.1), Value.slice p2_A2 (d2.2.2.length) (p2_c2)].toArray 24 (0, 0))), (0, mout (wm W) (m0))] (by kernel_rfl) ?_
  refine VO.k8 0 1 2 5 6 7 8 18 ?_
  refine VC.cond rfl (fun hc7 => ?_) (fun hc7 => ?_)
  · -- T
    refine VC.rs ?_
    refine VO.mv ?_
    refine VO.as ?_
    refine VO.k8 0 1 2 5 6 7 8 18 ?_
    refine VC.ret ?_
    refine outR ?_
    refine ⟨_, _, res_run (rs := [.tmp 6]) rfl (.tmp rfl .nil), fun W_ hI => out_of (l := [p3_1]) hI [105] rfl rfl (mle_refl _) (fun hS_ => ?_)⟩
    dsimp only [packV]
    have hm0_ : ((orphW d0 d1 d2).1 : DdiskDisk) = d0 := by first | rfl | (first | (rw [ow_bad1 (by assumption)] <;> rfl) | (rw [ow_bad2 (by assumption) (by assumption)] <;> rfl) | (rw [ow_bad3 (by assumption) (by assumption) (by omega)] <;> rfl) | (rw [ow_cutbad (by assumption) (by assumption) (by omega) (by omega) (by omega) (by assumption)] <;> rfl) | (rw [ow_wbad1 (by assumption) (by assumption) (by omega) (by omega) (by omega) (by assumption) (by assumption)] <;> rfl) | (rw [ow_good1 (by assumption) (by assumption) (by omega) (by omega) (by omega) (by assumption) (by assumption)] <;> rfl) | (rw [ow_wbad2 (by assumption) (by assumption) (by omega) (by omega) (by omega) (by assumption)] <;> rfl) | (rw [ow_good2 (by assumption) (by assumption) (by omega) (by omega) (by omega) (by assumption)] <;> rfl))
    refine ⟨?_, ?_⟩
    rotate_left
    · rw [hm0_]; exact (Ow.up w3_0 (hS_.1 _ (.head _)))
    all_goals (first | rfl | (first | (rw [ow_bad1 (by assumption)] <;> rfl) | (rw [ow_bad2 (by assumption) (by assumption)] <;> rfl) | (rw [ow_bad3 (by assumption) (by assumption) (by omega)] <;> rfl) | (rw [ow_cutbad (by assumption) (by assumption) (by omega) (by omega) (by omega) (by assumption)] <;> rfl) | (rw [ow_wbad1 (by assumption) (by assumption) (by omega) (by omega) (by omega) (by assumption) (by assumption)] <;> rfl) | (rw [ow_good1 (by assumption) (by assumption) (by omega) (by omega) (by omega) (by assumption) (by assumption)] <;> rfl) | (rw [ow_wbad2 (by assumption) (by assumption) (by omega) (by omega) (by omega) (by assumption)] <;> rfl) | (rw [ow_good2 (by assumption) (by assumption) (by omega) (by omega) (by omega) (by assumption)] <;> rfl)))
  · -- F
    refine VC.skip ?_
    refine outN ?_
    refine VC.rs ?_
    refine VO.y rfl (.ldA 102 rfl tk24 rfl (cellsAt_one rfl rfl)) ?_
    refine VO.callN 108 rfl fnOk16 rfl (fun W hW => sectEncode_ok W (Rd.mono h2 (hW.at (i := 0) rfl))) (fun v8 m8 hv8 => ?_)
    obtain ⟨s8_0, rfl, f8_0⟩ := hv8
    have hfa9 := sectEncode_len d2
    obtain ⟨A8_0, c8_0, eq8_0, l8_0, k8_0⟩ := f8_0.slice
    subst eq8_0
    simp only [maxLen] at k8_0
    refine VO.mv ?_
    refine VO.y rfl (.ext rfl rfl) ?_
    refine VO.y rfl (.ext rfl rfl) ?_
    refine VO.as ?_
    refine VO.as ?_
    refine VO.k9 0 1 2 5 6 7 8 9 18 ?_
    refine VC.seq ?_
    refine VC.rs ?_
    refine VO.mv ?_
    refine VO.y rfl (.neq rfl rfl) ?_
    refine VO.k10 0 1 2 5 6 7 8 9 18 26 ?_
    refine VC.cond rfl (fun hc10 => ?_) (fun hc10 => ?_)
    · -- FT
      refine VC.rs ?_
      refine VO.mv ?_
      refine VO.as ?_
      refine VO.keep [108, 104, 105, 102, 0] [(108, m8), (104, p3_0), (105, p3_1), (102, mone g1 (.cells [Value.int .i64 (d2.1), Value.int .i64 (d2.2.1), Value.slice p2_A2 (d2.2.2.length) (p2_c2)].toArray 24 (0, 0))), (0, mout (wm W) (m0))] (by kernel_rfl) ?_
      refine VO.k10 0 1 2 5 6 7 8 9 18 26 ?_
      refine VC.ret ?_
      refine outR ?_
      refine ⟨_, _, res_run (rs := [.tmp 6]) rfl (.tmp rfl .nil), fun W_ hI => out_of (l := [p3_1]) hI [105] rfl rfl (mle_refl _) (fun hS_ => ?_)⟩
      dsimp only [packV]
      have hm0_ : ((orphW d0 d1 d2).1 : DdiskDisk) = d0 := by first | rfl | (first | (rw [ow_bad1 (by assumption)] <;> rfl) | (rw [ow_bad2 (by assumption) (by assumption)] <;> rfl) | (rw [ow_bad3 (by assumption) (by assumption) (by omega)] <;> rfl) | (rw [ow_cutbad (by assumption) (by assumption) (by omega) (by omega) (by omega) (by assumption)] <;> rfl) | (rw [ow_wbad1 (by assumption) (by assumption) (by omega) (by omega) (by omega) (by assumption) (by assumption)] <;> rfl) | (rw [ow_good1 (by assumption) (by assumption) (by omega) (by omega) (by omega) (by assumption) (by assumption)] <;> rfl) | (rw [ow_wbad2 (by assumption) (by assumption) (by omega) (by omega) (by omega) (by assumption)] <;> rfl) | (rw [ow_good2 (by assumption) (by assumption) (by omega) (by omega) (by omega) (by assumption)] <;> rfl))
      refine ⟨?_, ?_⟩
      rotate_left
      · rw [hm0_]; exact (Ow.up w3_0 (hS_.1 _ (.head _)))
      all_goals (first | rfl | (first | (rw [ow_bad1 (by assumption)] <;> rfl) | (rw [ow_bad2 (by assumption) (by assumption)] <;> rfl) | (rw [ow_bad3 (by assumption) (by assumption) (by omega)] <;> rfl) | (rw [ow_cutbad (by assumption) (by assumption) (by omega) (by omega) (by omega) (by assumption)] <;> rfl) | (rw [ow_wbad1 (by assumption) (by assumption) (by omega) (by omega) (by omega) (by assumption) (by assumption)] <;> rfl) | (rw [ow_good1 (by assumption) (by assumption) (by omega) (by omega) (by omega) (by assumption) (by assumption)] <;> rfl) | (rw [ow_wbad2 (by assumption) (by assumption) (by omega) (by omega) (by omega) (by assumption)] <;> rfl) | (rw [ow_good2 (by assumption) (by assumption) (by omega) (by omega) (by omega) (by assumption)] <;> rfl)))
    · -- FF
      refine VC.skip ?_
      refine outN ?_
      refine VC.seq ?_
      refine VC.rs ?_
      refine VO.mv ?_
      refine VO.y rfl (.lss rfl rfl) ?_
      refine VO.mv ?_
      refine VO.dec (t := 30) rfl (fun hc11 => ?_) (fun hc11 => ?_)
      · -- FFT
        refine VO.gN ?_
        refine VO.gN ?_
        refine VO.gN ?_
        refine VO.gN ?_
        refine VO.y rfl (.pT rfl rfl) ?_
        refine VO.keep [108, 104, 105, 102, 0] [(108, m8), (104, p3_0), (105, p3_1), (102, mone g1 (.cells [Value.int .i64 (d2.1), Value.int .i64 (d2.2.1), Value.slice p2_A2 (d2.2.2.length) (p2_c2)].toArray 24 (0, 0))), (0, mout (wm W) (m0))] (by kernel_rfl) ?_
        refine VO.k11 0 1 2 5 6 7 8 9 18 26 35 ?_
        refine VC.condT rfl ?_
        refine VC.rs ?_
        refine VO.as ?_
        refine VO.k11 0 1 2 5 6 7 8 9 18 26 35 ?_
        refine VC.ret ?_
        refine outR ?_
        refine ⟨_, _, res_run (rs := [.tmp 6]) rfl (.tmp rfl .nil), fun W_ hI => out_of (l := [p3_1]) hI [105] rfl rfl (mle_refl _) (fun hS_ => ?_)⟩
        dsimp only [packV]
        have hm0_ : ((orphW d0 d1 d2).1 : DdiskDisk) = d0 := by first | rfl | (first | (rw [ow_bad1 (by assumption)] <;> rfl) | (rw [ow_bad2 (by assumption) (by assumption)] <;> rfl) | (rw [ow_bad3 (by assumption) (by assumption) (by omega)] <;> rfl) | (rw [ow_cutbad (by assumption) (by assumption) (by omega) (by omega) (by omega) (by assumption)] <;> rfl) | (rw [ow_wbad1 (by assumption) (by assumption) (by omega) (by omega) (by omega) (by assumption) (by assumption)] <;> rfl) | (rw [ow_good1 (by assumption) (by assumption) (by omega) (by omega) (by omega) (by assumption) (by assumption)] <;> rfl) | (rw [ow_wbad2 (by assumption) (by assumption) (by omega) (by omega) (by omega) (by assumption)] <;> rfl) | (rw [ow_good2 (by assumption) (by assumption) (by omega) (by omega) (by omega) (by assumption)] <;> rfl))
        refine ⟨?_, ?_⟩
        rotate_left
        · rw [hm0_]; exact (Ow.up w3_0 (hS_.1 _ (.head _)))
        all_goals (first | rfl | (first | (rw [ow_bad1 (by assumption)] <;> rfl) | (rw [ow_bad2 (by assumption) (by assumption)] <;> rfl) | (rw [ow_bad3 (by assumption) (by assumption) (by omega)] <;> rfl) | (rw [ow_cutbad (by assumption) (by assumption) (by omega) (by omega) (by omega) (by assumption)] <;> rfl) | (rw [ow_wbad1 (by assumption) (by assumption) (by omega) (by omega) (by omega) (by assumption) (by assumption)] <;> rfl) | (rw [ow_good1 (by assumption) (by assumption) (by omega) (by omega) (by omega) (by assumption) (by assumption)] <;> rfl) | (rw [ow_wbad2 (by assumption) (by assumption) (by omega) (by omega) (by omega) (by assumption)] <;> rfl) | (rw [ow_good2 (by assumption) (by assumption) (by omega) (by omega) (by omega) (by assumption)] <;> rfl)))
      · -- FFF
        refine VO.gy rfl ⟨_, rfl, rfl⟩ (.mv rfl) ?_
        refine VO.gy rfl ⟨_, rfl, rfl⟩ (.mv rfl) ?_
        refine VO.gy rfl ⟨_, rfl, rfl⟩ (.lenS rfl tsl25) ?_
        refine VO.gy rfl ⟨_, rfl, rfl⟩ (.gtr rfl rfl) ?_
        refine VO.y rfl (.pF rfl rfl) ?_
        refine VO.keep [108, 104, 105, 102, 0] [(108, m8), (104, p3_0), (105, p3_1), (102, mone g1 (.cells [Value.int .i64 (d2.1), Value.int .i64 (d2.2.1), Value.slice p2_A2 (d2.2.2.length) (p2_c2)].toArray 24 (0, 0))), (0, mout (wm W) (m0))] (by kernel_rfl) ?_
        refine VO.k11 0 1 2 5 6 7 8 9 18 26 35 ?_
        refine VC.cond rfl (fun hc12 => ?_) (fun hc12 => ?_)
        · -- FFFT
          refine VC.rs ?_
          refine VO.as ?_
          refine VO.k11 0 1 2 5 6 7 8 9 18 26 35 ?_
          refine VC.ret ?_
          refine outR ?_
          refine ⟨_, _, res_run (rs := [.tmp 6]) rfl (.tmp rfl .nil), fun W_ hI => out_of (l := [p3_1]) hI [105] rfl rfl (mle_refl _) (fun hS_ => ?_)⟩
          dsimp only [packV]
          have hm0_ : ((orphW d0 d1 d2).1 : DdiskDisk) = d0 := by first | rfl | (first | (rw [ow_bad1 (by assumption)] <;> rfl) | (rw [ow_bad2 (by assumption) (by assumption)] <;> rfl) | (rw [ow_bad3 (by assumption) (by assumption) (by omega)] <;> rfl) | (rw [ow_cutbad (by assumption) (by assumption) (by omega) (by omega) (by omega) (by assumption)] <;> rfl) | (rw [ow_wbad1 (by assumption) (by assumption) (by omega) (by omega) (by omega) (by assumption) (by assumption)] <;> rfl) | (rw [ow_good1 (by assumption) (by assumption) (by omega) (by omega) (by omega) (by assumption) (by assumption)] <;> rfl) | (rw [ow_wbad2 (by assumption) (by assumption) (by omega) (by omega) (by omega) (by assumption)] <;> rfl) | (rw [ow_good2 (by assumption) (by assumption) (by omega) (by omega) (by omega) (by assumption)] <;> rfl))
          refine ⟨?_, ?_⟩
          rotate_left
          · rw [hm0_]; exact (Ow.up w3_0 (hS_.1 _ (.head _)))
          all_goals (first | rfl | (first | (rw [ow_bad1 (by assumption)] <;> rfl) | (rw [ow_bad2 (by assumption) (by assumption)] <;> rfl) | (rw [ow_bad3 (by assumption) (by assumption) (by omega)] <;> rfl) | (rw [ow_cutbad (by assumption) (by assumption) (by omega) (by omega) (by omega) (by assumption)] <;> rfl) | (rw [ow_wbad1 (by assumption) (by assumption) (by omega) (by omega) (by omega) (by assumption) (by assumption)] <;> rfl) | (rw [ow_good1 (by assumption) (by assumption) (by omega) (by omega) (by omega) (by assumption) (by assumption)] <;> rfl) | (rw [ow_wbad2 (by assumption) (by assumption) (by omega) (by omega) (by omega) (by assumption)] <;> rfl) | (rw [ow_good2 (by assumption) (by assumption) (by omega) (by omega) (by omega) (by assumption)] <;> rfl)))
        · -- FFFF
          refine VC.skip ?_
          refine outN ?_
          refine VC.seq ?_
          refine VC.rs ?_
          refine VO.mv ?_
          refine VO.mv ?_
          refine VO.y rfl (.lenS rfl tsl25) ?_
          refine VO.y rfl (.lss rfl rfl) ?_
          refine VO.k12 0 1 2 5 6 7 8 9 18 26 35 39 ?_
          refine VC.cond rfl (fun hc13 => ?_) (fun hc13 => ?_)
          · -- FFFFT
            refine VC.rs ?_
            refine VO.mv ?_
            refine VO.mv ?_
            refine VO.call 105 rfl fnOk72 rfl rfl (fun W hW => dCut_ok W (hW.at (i := 105) rfl) w3_0 3 bdk d1 bdk (by assumption) bd) (fun v14 m14 hv14 => ?_)
            obtain ⟨rfl, w14_0⟩ := hv14
            have hfa15 := (cut_ok (f := 3) (n := d1) (show okD d0 by assumption))
            have hfa16 := (cut_w (f := 3) (n := d1) (show okD d0 by assumption))
            refine VO.as ?_
            refine VO.k13 0 1 2 5 6 7 8 9 10 18 26 35 39 ?_
            refine VC.rs ?_
            refine VO.mv ?_
            refine VO.y rfl (.neq rfl rfl) ?_
            refine VO.keep [105, 108, 104, 102, 0] [(105, m14), (108, m8), (104, p3_0), (102, mone g1 (.cells [Value.int .i64 (d2.1), Value.int .i64 (d2.2.1), Value.slice p2_A2 (d2.2.2.length) (p2_c2)].toArray 24 (0, 0))), (0, mout (wm W) (m0))] (by kernel_rfl) ?_
            refine VO.k14 0 1 2 5 6 7 8 9 10 18 26 35 39 44 ?_
            refine VC.cond rfl (fun hc17 => ?_) (fun hc17 => ?_)
            · -- FFFFTT
              refine VC.rs ?_
              refine VO.mv ?_
              refine VO.as ?_
              refine VO.k14 0 1 2 5 6 7 8 9 10 18 26 35 39 44 ?_
              refine VC.ret ?_
              refine outR ?_
              refine ⟨_, _, res_run (rs := [.tmp 6]) rfl (.tmp rfl .nil), fun W_ hI => out_of (l := [m14]) hI [105] rfl rfl (mle_refl _) (fun hS_ => ?_)⟩
              dsimp only [packV]
              have hm0_ : ((orphW d0 d1 d2).1 : DdiskDisk) = (dCut d0 3 d1).1 := by first | rfl | (first | (rw [ow_bad1 (by assumption)] <;> rfl) | (rw [ow_bad2 (by assumption) (by assumption)] <;> rfl) | (rw [ow_bad3 (by assumption) (by assumption) (by omega)] <;> rfl) | (rw [ow_cutbad (by assumption) (by assumption) (by omega) (by omega) (by omega) (by assumption)] <;> rfl) | (rw [ow_wbad1 (by assumption) (by assumption) (by omega) (by omega) (by omega) (by assumption) (by assumption)] <;> rfl) | (rw [ow_good1 (by assumption) (by assumption) (by omega) (by omega) (by omega) (by assumption) (by assumption)] <;> rfl) | (rw [ow_wbad2 (by assumption) (by assumption) (by omega) (by omega) (by omega) (by assumption)] <;> rfl) | (rw [ow_good2 (by assumption) (by assumption) (by omega) (by omega) (by omega) (by assumption)] <;> rfl))
              refine ⟨?_, ?_⟩
              rotate_left
              · rw [hm0_]; exact (Ow.up w14_0 (hS_.1 _ (.head _)))
              all_goals (first | rfl | (first | (rw [ow_bad1 (by assumption)] <;> rfl) | (rw [ow_bad2 (by assumption) (by assumption)] <;> rfl) | (rw [ow_bad3 (by assumption) (by assumption) (by omega)] <;> rfl) | (rw [ow_cutbad (by assumption) (by assumption) (by omega) (by omega) (by omega) (by assumption)] <;> rfl) | (rw [ow_wbad1 (by assumption) (by assumption) (by omega) (by omega) (by omega) (by assumption) (by assumption)] <;> rfl) | (rw [ow_good1 (by assumption) (by assumption) (by omega) (by omega) (by omega) (by assumption) (by assumption)] <;> rfl) | (rw [ow_wbad2 (by assumption) (by assumption) (by omega) (by omega) (by omega) (by assumption)] <;> rfl) | (rw [ow_good2 (by assumption) (by assumption) (by omega) (by omega) (by omega) (by assumption)] <;> rfl)))
            · -- FFFFTF
              refine VC.skip ?_
              refine outN ?_
              refine VC.seq ?_
              refine VC.rs ?_
              refine VO.mv ?_
              refine VO.mv ?_
              refine VO.call 105 rfl fnOk35 rfl rfl (fun W hW => dWrite_ok W (hW.at (i := 105) rfl) w14_0 3 bdk (OwnL.rd (Ow.ownl f8_0 rfl mnil) (hW.out (i := 105) (j := 108) rfl rfl) (mle_nil _)) (by assumption) bd) (fun v18 m18 hv18 => ?_)
              obtain ⟨rfl, w18_0⟩ := hv18
              have hfa19 := (write_ok (f := 3) (b := ((sectEncode d2).1)) (show okD ((dCut d0 3 d1).1) by assumption))
              have hfa20 := (write_w (f := 3) (b := ((sectEncode d2).1)) (show okD ((dCut d0 3 d1).1) by assumption))
              refine VO.as ?_
              refine VO.k15 0 1 2 5 6 7 8 9 10 11 18 26 35 39 44 ?_
              refine VC.rs ?_
              refine VO.mv ?_
              refine VO.y rfl (.neq rfl rfl) ?_
              refine VO.k16 0 1 2 5 6 7 8 9 10 11 18 26 35 39 44 50 ?_
              refine VC.cond rfl (fun hc21 => ?_) (fun hc21 => ?_)
              · -- FFFFTFT
                refine VC.rs ?_
                refine VO.mv ?_
                refine VO.as ?_
                refine VO.keep [105, 108, 104, 102, 0] [(105, m18), (108, m8), (104, p3_0), (102, mone g1 (.cells [Value.int .i64 (d2.1), Value.int .i64 (d2.2.1), Value.slice p2_A2 (d2.2.2.length) (p2_c2)].toArray 24 (0, 0))), (0, mout (wm W) (m0))] (by kernel_rfl) ?_
                refine VO.k16 0 1 2 5 6 7 8 9 10 11 18 26 35 39 44 50 ?_
                refine VC.ret ?_
                refine outR ?_
                refine ⟨_, _, res_run (rs := [.tmp 6]) rfl (.tmp rfl .nil), fun W_ hI => out_of (l := [m18]) hI [105] rfl rfl (mle_refl _) (fun hS_ => ?_)⟩
                dsimp only [packV]
                have hm0_ : ((orphW d0 d1 d2).1 : DdiskDisk) = (dWrite ((dCut d0 3 d1).1) 3 ((sectEncode d2).1)).1 := by first | rfl | (first | (rw [ow_bad1 (by assumption)] <;> rfl) | (rw [ow_bad2 (by assumption) (by assumption)] <;> rfl) | (rw [ow_bad3 (by assumption) (by assumption) (by omega)] <;> rfl) | (rw [ow_cutbad (by assumption) (by assumption) (by omega) (by omega) (by omega) (by assumption)] <;> rfl) | (rw [ow_wbad1 (by assumption) (by assumption) (by omega) (by omega) (by omega) (by assumption) (by assumption)] <;> rfl) | (rw [ow_good1 (by assumption) (by assumption) (by omega) (by omega) (by omega) (by assumption) (by assumption)] <;> rfl) | (rw [ow_wbad2 (by assumption) (by assumption) (by omega) (by omega) (by omega) (by assumption)] <;> rfl) | (rw [ow_good2 (by assumption) (by assumption) (by omega) (by omega) (by omega) (by assumption)] <;> rfl))
                refine ⟨?_, ?_⟩
                rotate_left
                · rw [hm0_]; exact (Ow.up w18_0 (hS_.1 _ (.head _)))
                all_goals (first | rfl | (first | (rw [ow_bad1 (by assumption)] <;> rfl) | (rw [ow_bad2 (by assumption) (by assumption)] <;> rfl) | (rw [ow_bad3 (by assumption) (by assumption) (by omega)] <;> rfl) | (rw [ow_cutbad (by assumption) (by assumption) (by omega) (by omega) (by omega) (by assumption)] <;> rfl) | (rw [ow_wbad1 (by assumption) (by assumption) (by omega) (by omega) (by omega) (by assumption) (by assumption)] <;> rfl) | (rw [ow_good1 (by assumption) (by assumption) (by omega) (by omega) (by omega) (by assumption) (by assumption)] <;> rfl) | (rw [ow_wbad2 (by assumption) (by assumption) (by omega) (by omega) (by omega) (by assumption)] <;> rfl) | (rw [ow_good2 (by assumption) (by assumption) (by omega) (by omega) (by omega) (by assumption)] <;> rfl)))
              · -- FFFFTFF
                refine VC.skip ?_
                refine outN ?_
                refine VC.rs ?_
                refine VO.mv ?_
                refine VO.call 105 rfl fnOk37 rfl rfl (fun W hW => dSync_ok W (hW.at (i := 105) rfl) w18_0 (by assumption) bd) (fun v22 m22 hv22 => ?_)
                obtain ⟨rfl, w22_0⟩ := hv22
                have hfa23 := (sync_ok (show okD ((dWrite ((dCut d0 3 d1).1) 3 ((sectEncode d2).1)).1) by assumption))
                have hfa24 := (sync_w (show okD ((dWrite ((dCut d0 3 d1).1) 3 ((sectEncode d2).1)).1) by assumption))
                refine VO.as ?_
                refine VO.keep [105, 108, 104, 102, 0] [(105, m22), (108, m8), (104, p3_0), (102, mone g1 (.cells [Value.int .i64 (d2.1), Value.int .i64 (d2.2.1), Value.slice p2_A2 (d2.2.2.length) (p2_c2)].toArray 24 (0, 0))), (0, mout (wm W) (m0))] (by kernel_rfl) ?_
                refine VO.k16 0 1 2 5 6 7 8 9 10 11 18 26 35 39 44 50 ?_
                refine VC.ret ?_
                refine ⟨_, _, res_run (rs := [.tmp 6]) rfl (.tmp rfl .nil), fun W_ hI => out_of (l := [m22]) hI [105] rfl rfl (mle_refl _) (fun hS_ => ?_)⟩
                dsimp only [packV]
                have hm0_ : ((orphW d0 d1 d2).1 : DdiskDisk) = (dSync ((dWrite ((dCut d0 3 d1).1) 3 ((sectEncode d2).1)).1)).1 := by first | rfl | (first | (rw [ow_bad1 (by assumption)] <;> rfl) | (rw [ow_bad2 (by assumption) (by assumption)] <;> rfl) | (rw [ow_bad3 (by assumption) (by assumption) (by omega)] <;> rfl) | (rw [ow_cutbad (by assumption) (by assumption) (by omega) (by omega) (by omega) (by assumption)] <;> rfl) | (rw [ow_wbad1 (by assumption) (by assumption) (by omega) (by omega) (by omega) (by assumption) (by assumption)] <;> rfl) | (rw [ow_good1 (by assumption) (by assumption) (by omega) (by omega) (by omega) (by assumption) (by assumption)] <;> rfl) | (rw [ow_wbad2 (by assumption) (by assumption) (by omega) (by omega) (by omega) (by assumption)] <;> rfl) | (rw [ow_good2 (by assumption) (by assumption) (by omega) (by omega) (by omega) (by assumption)] <;> rfl))
                refine ⟨?_, ?_⟩
                rotate_left
                · rw [hm0_]; exact (Ow.up w22_0 (hS_.1 _ (.head _)))
                all_goals (first | rfl | (first | (rw [ow_bad1 (by assumption)] <;> rfl) | (rw [ow_bad2 (by assumption) (by assumption)] <;> rfl) | (rw [ow_bad3 (by assumption) (by assumption) (by omega)] <;> rfl) | (rw [ow_cutbad (by assumption) (by assumption) (by omega) (by omega) (by omega) (by assumption)] <;> rfl) | (rw [ow_wbad1 (by assumption) (by assumption) (by omega) (by omega) (by omega) (by assumption) (by assumption)] <;> rfl) | (rw [ow_good1 (by assumption) (by assumption) (by omega) (by omega) (by omega) (by assumption) (by assumption)] <;> rfl) | (rw [ow_wbad2 (by assumption) (by assumption) (by omega) (by omega) (by omega) (by assumption)] <;> rfl) | (rw [ow_good2 (by assumption) (by assumption) (by omega) (by omega) (by omega) (by assumption)] <;> rfl)))
          · -- FFFFF
            refine VC.skip ?_
            refine outN ?_
            refine VC.seq ?_
            refine VC.rs ?_
            refine VO.mv ?_
            refine VO.mv ?_
            refine VO.call 105 rfl fnOk35 rfl rfl (fun W hW => dWrite_ok W (hW.at (i := 105) rfl) w3_0 3 bdk (OwnL.rd (Ow.ownl f8_0 rfl mnil) (hW.out (i := 105) (j := 108) rfl rfl) (mle_nil _)) (by assumption) bd) (fun v25 m25 hv25 => ?_)
            obtain ⟨rfl, w25_0⟩ := hv25
            have hfa26 := (write_ok (f := 3) (b := ((sectEncode d2).1)) (show okD d0 by assumption))
            have hfa27 := (write_w (f := 3) (b := ((sectEncode d2).1)) (show okD d0 by assumption))
            refine VO.as ?_
            refine VO.k13 0 1 2 5 6 7 8 9 11 18 26 35 39 ?_
            refine VC.rs ?_
            refine VO.mv ?_
            refine VO.y rfl (.neq rfl rfl) ?_
            refine VO.keep [105, 108, 104, 102, 0] [(105, m25), (108, m8), (104, p3_0), (102, mone g1 (.cells [Value.int .i64 (d2.1), Value.int .i64 (d2.2.1), Value.slice p2_A2 (d2.2.2.length) (p2_c2)].toArray 24 (0, 0))), (0, mout (wm W) (m0))] (by kernel_rfl) ?_
            refine VO.k14 0 1 2 5 6 7 8 9 11 18 26 35 39 50 ?_
            refine VC.cond rfl (fun hc28 => ?_) (fun hc28 => ?_)
            · -- FFFFFT
              refine VC.rs ?_
              refine VO.mv ?_
              refine VO.as ?_
              refine VO.k14 0 1 2 5 6 7 8 9 11 18 26 35 39 50 ?_
              refine VC.ret ?_
              refine outR ?_
              refine ⟨_, _, res_run (rs := [.tmp 6]) rfl (.tmp rfl .nil), fun W_ hI => out_of (l := [m25]) hI [105] rfl rfl (mle_refl _) (fun hS_ => ?_)⟩
              dsimp only [packV]
              have hm0_ : ((orphW d0 d1 d2).1 : DdiskDisk) = (dWrite d0 3 ((sectEncode d2).1)).1 := by first | rfl | (first | (rw [ow_bad1 (by assumption)] <;> rfl) | (rw [ow_bad2 (by assumption) (by assumption)] <;> rfl) | (rw [ow_bad3 (by assumption) (by assumption) (by omega)] <;> rfl) | (rw [ow_cutbad (by assumption) (by assumption) (by omega) (by omega) (by omega) (by assumption)] <;> rfl) | (rw [ow_wbad1 (by assumption) (by assumption) (by omega) (by omega) (by omega) (by assumption) (by assumption)] <;> rfl) | (rw [ow_good1 (by assumption) (by assumption) (by omega) (by omega) (by omega) (by assumption) (by assumption)] <;> rfl) | (rw [ow_wbad2 (by assumption) (by assumption) (by omega) (by omega) (by omega) (by assumption)] <;> rfl) | (rw [ow_good2 (by assumption) (by assumption) (by omega) (by omega) (by omega) (by assumption)] <;> rfl))
              refine ⟨?_, ?_⟩
              rotate_left
              · rw [hm0_]; exact (Ow.up w25_0 (hS_.1 _ (.head _)))
              all_goals (first | rfl | (first | (rw [ow_bad1 (by assumption)] <;> rfl) | (rw [ow_bad2 (by assumption) (by assumption)] <;> rfl) | (rw [ow_bad3 (by assumption) (by assumption) (by omega)] <;> rfl) | (rw [ow_cutbad (by assumption) (by assumption) (by omega) (by omega) (by omega) (by assumption)] <;> rfl) | (rw [ow_wbad1 (by assumption) (by assumption) (by omega) (by omega) (by omega) (by assumption) (by assumption)] <;> rfl) | (rw [ow_good1 (by assumption) (by assumption) (by omega) (by omega) (by omega) (by assumption) (by assumption)] <;> rfl) | (rw [ow_wbad2 (by assumption) (by assumption) (by omega) (by omega) (by omega) (by assumption)] <;> rfl) | (rw [ow_good2 (by assumption) (by assumption) (by omega) (by omega) (by omega) (by assumption)] <;> rfl)))
            · -- FFFFFF
              refine VC.skip ?_
              refine outN ?_
              refine VC.rs ?_
              refine VO.mv ?_
              refine VO.call 105 rfl fnOk37 rfl rfl (fun W hW => dSync_ok W (hW.at (i := 105) rfl) w25_0 (by assumption) bd) (fun v29 m29 hv29 => ?_)
              obtain ⟨rfl, w29_0⟩ := hv29
              have hfa30 := (sync_ok (show okD ((dWrite d0 3 ((sectEncode d2).1)).1) by assumption))
              have hfa31 := (sync_w (show okD ((dWrite d0 3 ((sectEncode d2).1)).1) by assumption))
              refine VO.as ?_
              refine VO.k14 0 1 2 5 6 7 8 9 11 18 26 35 39 50 ?_
              refine VC.ret ?_
              refine ⟨_, _, res_run (rs := [.tmp 6]) rfl (.tmp rfl .nil), fun W_ hI => out_of (l := [m29]) hI [105] rfl rfl (mle_refl _) (fun hS_ => ?_)⟩
              dsimp only [packV]
              have hm0_ : ((orphW d0 d1 d2).1 : DdiskDisk) = (dSync ((dWrite d0 3 ((sectEncode d2).1)).1)).1 := by first | rfl | (first | (rw [ow_bad1 (by assumption)] <;> rfl) | (rw [ow_bad2 (by assumption) (by assumption)] <;> rfl) | (rw [ow_bad3 (by assumption) (by assumption) (by omega)] <;> rfl) | (rw [ow_cutbad (by assumption) (by assumption) (by omega) (by omega) (by omega) (by assumption)] <;> rfl) | (rw [ow_wbad1 (by assumption) (by assumption) (by omega) (by omega) (by omega) (by assumption) (by assumption)] <;> rfl) | (rw [ow_good1 (by assumption) (by assumption) (by omega) (by omega) (by omega) (by assumption) (by assumption)] <;> rfl) | (rw [ow_wbad2 (by assumption) (by assumption) (by omega) (by omega) (by omega) (by assumption)] <;> rfl) | (rw [ow_good2 (by assumption) (by assumption) (by omega) (by omega) (by omega) (by assumption)] <;> rfl))
              refine ⟨?_, ?_⟩
              rotate_left
              · rw [hm0_]; exact (Ow.up w29_0 (hS_.1 _ (.head _)))
              all_goals (first | rfl | (first | (rw [ow_bad1 (by assumption)] <;> rfl) | (rw [ow_bad2 (by assumption) (by assumption)] <;> rfl) | (rw [ow_bad3 (by assumption) (by assumption) (by omega)] <;> rfl) | (rw [ow_cutbad (by assumption) (by assumption) (by omega) (by omega) (by omega) (by assumption)] <;> rfl) | (rw [ow_wbad1 (by assumption) (by assumption) (by omega) (by omega) (by omega) (by assumption) (by assumption)] <;> rfl) | (rw [ow_good1 (by assumption) (by assumption) (by omega) (by omega) (by omega) (by assumption) (by assumption)] <;> rfl) | (rw [ow_wbad2 (by assumption) (by assumption) (by omega) (by omega) (by omega) (by assumption)] <;> rfl) | (rw [ow_good2 (by assumption) (by assumption) (by omega) (by omega) (by omega) (by assumption)] <;> rfl)))
end
section
set_option linter.unusedVariables false
def exS : DSection := (2, 1, [ofC 1 2])
def exSB : Bytes := [3, 2, 1, 1, 9, 1, 2, 1, 1, 0, 1, 97, 1, 49]
theorem exS_enc : sectEnc exS = exSB := by
  simp [sectEnc, sectHead, fEnc, cFrames, cFrame, cEnc, exS, ofC, exSB, batchEnc, encOps, encOp, shared, venc_last]
theorem ex19E : sectEncode exS = (exSB, 0) := by rw [sectEncode_good (by decide), exS_enc]
theorem ex19S (r : Bytes) (h : (secRead r).2.2 = false) : scanF (exSB ++ r) = ([exS], 14) := by
  have h1 := scan_whole (l := [exS]) (r := r) ⟨by decide, by decide, trivial⟩ h
  have e : sectEncs [exS] = exSB := by simp [sectEncs, exS_enc]
  rw [e] at h1
  rw [h1]; rfl
theorem ex19D : scanF (exSB ++ [3, 3, 1, 1]) = ([exS], 14) := ex19S _ (by decide)
theorem ex19F : scanF exSB = ([exS], 14) := by
  have := ex19S [] sec_nil
  rwa [List.append_nil] at this
theorem ex19H : hasS (scanF exSB).1 1 2 = true ∧ hasS (scanF exSB).1 2 2 = false := by rw [ex19F]; decide
end
section
set_option linter.unusedVariables false
set_option linter.unusedSimpArgs false
set_option maxRecDepth 4000
theorem fnOk10 : fnOk Try.prog 10 = true := by kernel_rfl
theorem fnOk11 : fnOk Try.prog 11 = true := by kernel_rfl
theorem fnOk22 : fnOk Try.prog 22 = true := by kernel_rfl
theorem fnOk8 : fnOk Try.prog 8 = true := by kernel_rfl
theorem small19_ok (W : World) {v0 : List Value} {d0 : DSection} (h0 : Rd TSection (wm W) v0 d0) : CallR Try.prog 13 [.agg v0.toArray] W (mnil) (fun v m' => v = .bool (decide (smallS d0))) := by
  obtain ⟨p0_A2, p0_c2, rfl, p0_0, p0_1, p0_2⟩ := open_Section (x0 := d0.1) (x1 := d0.2.1) (x2 := d0.2.2) h0
  simp only [inK] at p0_0
  simp only [inK] at p0_1
  have p0_r2 := Rd.room p0_2
  refine CallR.ofA (n := 23) Try.func13 rfl rfl rfl ?_
  refine VC.rs ?_
  refine VO.box (cs := [Value.int .i64 (d0.1), Value.int .i64 (d0.2.1), Value.slice p0_A2 (d0.2.2.length) (p0_c2)]) 102 rfl rfl rfl (fun g1 => ?_)
  refine VO.as ?_
  refine VO.k3 0 1 2 ?_
  refine VC.seq ?_
  refine VC.rs ?_
  refine VO.as ?_
  refine VO.k4 0 1 2 3 ?_
  refine VC.block ?_
  refine VC.loop (G := Nat) (fun k => [(3, Value.int .i64 (((k : Nat) : Int))), (0, Value.agg [Value.int .i64 (d0.1), Value.int .i64 (d0.2.1), Value.slice p0_A2 (d0.2.2.length) (p0_c2)].toArray), (1, Value.pointer (some ⟨g1, 0, none⟩))]) (fun k => [(102, mone g1 (.cells [Value.int .i64 (d0.1), Value.int .i64 (d0.2.1), Value.slice p0_A2 (d0.2.2.length) (p0_c2)].toArray 24 (0, 0))), (0, wm W)]) (fun k => (k ≤ d0.2.2.length) ∧ (∀ c ∈ d0.2.2.take k, c.2.2.length ≤ 40)) (fun k => d0.2.2.length - k) 0 (⟨by omega, by simp⟩) ⟨⟨rfl, rfl, rfl, trivial⟩, fun _ h => h.sub [102, 0]⟩ ?_
  rintro k ⟨hk, ha⟩
  refine VC.seq ?_
  refine VC.rs ?_
  refine VO.mv ?_
  refine VO.y rfl (.fa rfl tst24 rfl) ?_
  refine VO.y rfl (.ld1 102 rfl tk22 rfl (cellsAt_one rfl rfl)) ?_
  refine VO.y rfl (.lenS rfl tsl22) ?_
  refine VO.y rfl (.lss rfl rfl) ?_
  refine VO.keep [102, 0] [(102, mone g1 (.cells [Value.int .i64 (d0.1), Value.int .i64 (d0.2.1), Value.slice p0_A2 (d0.2.2.length) (p0_c2)].toArray 24 (0, 0))), (0, wm W)] (by kernel_rfl) ?_
  refine VO.k4 0 1 3 8 ?_
  refine VC.cond rfl (fun hc3 => ?_) (fun hc3 => ?_)
  · -- T
    refine VC.skip ?_
    refine outN ?_
    refine VC.seq ?_
    refine VC.block ?_
    refine VC.rs ?_
    refine VO.y rfl (.fa rfl tst24 rfl) ?_
    refine VO.y rfl (.ld1 102 rfl tk22 rfl (cellsAt_one rfl rfl)) ?_
    refine VO.mv ?_
    obtain ⟨x4, hx4⟩ : ∃ z_, (d0.2.2)[k]? = some z_ := ⟨_, List.getElem?_eq_getElem bd⟩
    obtain ⟨gg4, oo4, ec4, ea4, hce4, hre4⟩ := p0_2.elem hx4
    cases ea4
    obtain ⟨q4_A2, q4_c2, rfl, q4_0, q4_1, q4_2⟩ := open_Commit (x0 := x4.1) (x1 := x4.2.1) (x2 := x4.2.2) hre4
    simp only [inK] at q4_0
    simp only [inK] at q4_1
    have q4_r2 := Rd.room q4_2
    refine VO.y rfl (.ixI k rfl rfl tsl22 rfl bd) ?_
    refine VO.y rfl (.fa rfl tst32 rfl) ?_
    refine VO.y rfl (.ld1 0 rfl tk30 rfl (hce4.at1 (j := 2) rfl)) ?_
    refine VO.y rfl (.lenS rfl tsl30) ?_
    refine VO.y rfl (.gtr rfl rfl) ?_
    refine VO.k5 0 1 3 8 18 ?_
    refine VC.cond rfl (fun hc5 => ?_) (fun hc5 => ?_)
    · -- TT
      refine VC.rs ?_
      refine VO.as ?_
      refine VO.k6 0 1 2 3 8 18 ?_
      refine VC.ret ?_
      refine outBR ?_
      refine outR ?_
      refine outR ?_
      refine outBR ?_
      refine outR ?_
      refine ⟨_, _, res_run (rs := [.tmp 2]) rfl (.tmp rfl .nil), fun W_ hI => out_of (l := []) hI [] rfl rfl (mle_refl _) (fun hS_ => ?_)⟩
      dsimp only [packV]
      all_goals (first | rfl | (first | exact congrArg Value.bool (decide_eq_false (fun e => by have := e.1 _ (List.mem_of_getElem? ‹d0.2.2[k]? = some _›); omega)).symm | exact congrArg Value.bool (decide_eq_false (fun e => by have := e.2; omega)).symm | exact congrArg Value.bool (decide_eq_decide.2 (by have ha2 := ha; rw [List.take_of_length_le (by omega)] at ha2; exact ⟨fun h => ⟨ha2, by omega⟩, fun h => by have := h.2; omega⟩))))
    · -- TF
      refine VC.skip ?_
      refine outBN ?_
      refine outN ?_
      refine VC.reg ?_
      refine VO.mv ?_
      refine VO.y rfl (.add (c := ((k + 1 : Nat) : Int)) rfl rfl (by omega) ⟨bd, bd⟩) ?_
      refine VO.as ?_
      refine VO.k5 0 1 3 8 18 ?_
      exact outN ⟨k + 1, ⟨by omega, by exact all_next ha ‹d0.2.2[k]? = some _› (by omega)⟩, bd, ⟨⟨rfl, rfl, rfl, trivial⟩, fun _ h => Inv.sub h [102, 0]⟩⟩
  · -- F
    refine VC.exit ?_
    refine outE ?_
    refine outE ?_
    refine outBB ?_
    refine outN ?_
    refine VC.rs ?_
    refine VO.y rfl (.fa rfl tst24 rfl) ?_
    refine VO.y rfl (.ld1 102 rfl tk22 rfl (cellsAt_one rfl rfl)) ?_
    refine VO.y rfl (.lenS rfl tsl22) ?_
    refine VO.y rfl (.leq rfl rfl) ?_
    refine VO.as ?_
    refine VO.k5 0 1 2 3 8 ?_
    refine VC.ret ?_
    refine ⟨_, _, res_run (rs := [.tmp 2]) rfl (.tmp rfl .nil), fun W_ hI => out_of (l := []) hI [] rfl rfl (mle_refl _) (fun hS_ => ?_)⟩
    dsimp only [packV]
    all_goals (first | rfl | (first | exact congrArg Value.bool (decide_eq_false (fun e => by have := e.1 _ (List.mem_of_getElem? ‹d0.2.2[k]? = some _›); omega)).symm | exact congrArg Value.bool (decide_eq_false (fun e => by have := e.2; omega)).symm | exact congrArg Value.bool (decide_eq_decide.2 (by have ha2 := ha; rw [List.take_of_length_le (by omega)] at ha2; exact ⟨fun h => ⟨ha2, by omega⟩, fun h => by have := h.2; omega⟩))))
theorem put19_ok (W : World) (d0 : Int) (h0 : inK .i64 d0) (d1 : Int) (h1 : inK .i64 d1) : CallR Try.prog 10 [.int .i64 d0, .int .i64 d1] W (mnil) (fun v m' => ∃ (s0 : List Value), v = .agg s0.toArray ∧ Ow TCommit m' s0 (ofC d0 d1)) := by
  have h0' := h0; simp only [inK] at h0'
  have h1' := h1; simp only [inK] at h1'
  refine CallR.ofA (n := 10) Try.func10 rfl rfl rfl ?_
  refine VC.rs ?_
  refine VO.alloc 102 rfl tz32 (fun g1 => ?_)
  refine VO.k3 0 1 4 ?_
  refine VC.rs ?_
  refine VO.mv ?_
  refine VO.mv ?_
  refine VO.y rfl (.bst (cs := [Value.bool true, str ([97]), str ([49])]) rfl tst78 tz78 rfl) ?_
  refine VO.bsl (cs := [Value.bool true, str ([97]), str ([49])]) 104 rfl rfl tsl30 tz78 rfl rfl (fun g3 => ?_)
  refine VO.y rfl (.bst (cs := [Value.int .i64 (d0), Value.int .i64 (d1), Value.slice (some ⟨g3, 0, none⟩) (1) (1)]) rfl tst32 tz32 rfl) ?_
  refine VO.store (k := 3) (c' := [Value.int .i64 (d0), Value.int .i64 (d1), Value.slice (some ⟨g3, 0, none⟩) (1) (1)]) 102 rfl rfl (.inl tk32) rfl rfl rfl rfl rfl ?_
  refine VO.k3 0 1 4 ?_
  refine VC.ret ?_
  have ho5 : OwnL TOp (mone g3 (.cells [Value.bool true, str ([97]), str ([49])].toArray 78 (0, 0))) mnil (Value.slice (some ⟨g3, 0, none⟩) (1) (1)) [(true, [97], [49])] := OwnL.lit 1 (All2c.cons (c1 := [Value.bool true, str ([97]), str ([49])]) (mk_Op (m := _) true ([97]) ([49]) bdm bdm) All2c.nil) rfl rfl
  refine ⟨_, _, res_run (rs := [.cell 4 32]) rfl (.agg 102 rfl tk32 rfl ⟨_, _, _, mone_self _ _, Nat.le_of_ble_eq_true rfl, rfl⟩ .nil), fun W_ hI => out_of (l := [mone g3 (.cells [Value.bool true, str ([97]), str ([49])].toArray 78 (0, 0))]) hI [104] rfl rfl (mle_refl _) (fun hS_ => ?_)⟩
  dsimp only [packV]
  have he0 : (ofC d0 d1 : Ty.Den TCommit) = (d0, d1, [(true, [97], [49])]) := by first | rfl | (simp [*]; done)
  refine ⟨[Value.int .i64 (d0), Value.int .i64 (d1), Value.slice (some ⟨g3, 0, none⟩) (1) (1)], ?_, ?_⟩
  rotate_left
  · rw [he0]; exact (mkO_Commit d0 d1 ([(true, [97], [49])]) hS_ bdk bdk (OwnL.ow ho5 rfl))
  all_goals (first | rfl | (simp [*]; done))
theorem example19_ok (W : World) : CallR Try.prog 8 [] W (mnil) (fun v m' => ∃ (s0 : List Value), ∃ (s1 : Value), ∃ (p0 : Mem), ∃ (p1 : Mem), v = .tuple #[.agg s0.toArray, s1] ∧ Seps m' [p0, p1] ∧ Ow TSection p0 s0 (exS) ∧ Ow (.sl .byte) p1 [s1] (exSB)) := by
  refine CallR.ofA (n := 6) Try.func8 rfl rfl rfl ?_
  refine VC.rs ?_
  refine VO.alloc 102 rfl tz24 (fun g1 => ?_)
  refine VO.as ?_
  refine VO.k2 0 1 ?_
  refine VC.rs ?_
  refine VO.callN 103 rfl fnOk10 rfl (fun W hW => put19_ok W 1 bdk 2 bdk) (fun v3 m3 hv3 => ?_)
  obtain ⟨s3_0, rfl, f3_0⟩ := hv3
  obtain ⟨q3_0_A2, q3_0_c2, q3_0_n2, rfl, q3_0_S, q3_0_0, q3_0_1, q3_0_2⟩ := openO_Commit (x0 := (ofC 1 2).1) (x1 := (ofC 1 2).2.1) (x2 := (ofC 1 2).2.2) f3_0
  simp only [inK] at q3_0_0
  simp only [inK] at q3_0_1
  have q3_0_r2 := Rd.room (q3_0_2.rd (mle_refl _))
  refine VO.inv _ (fun _ h => h.parts (i := 103) rfl q3_0_S [104]) ?_
  refine VO.bsl (cs := [Value.int .i64 ((ofC 1 2).1), Value.int .i64 ((ofC 1 2).2.1), Value.slice q3_0_A2 (((ofC 1 2).2.2).length) (q3_0_c2)]) 106 rfl rfl tsl22 tz32 rfl rfl (fun g5 => ?_)
  refine VO.gather (l := [mone g5 (.cells [Value.int .i64 ((ofC 1 2).1), Value.int .i64 ((ofC 1 2).2.1), Value.slice q3_0_A2 (((ofC 1 2).2.2).length) (q3_0_c2)].toArray 32 (0, 0)), q3_0_n2]) 108 [106, 104] rfl (fun hg7 => ?_)
  have ho7 : Ow (.sl TCommit) (muns [mone g5 (.cells [Value.int .i64 ((ofC 1 2).1), Value.int .i64 ((ofC 1 2).2.1), Value.slice q3_0_A2 (((ofC 1 2).2.2).length) (q3_0_c2)].toArray 32 (0, 0)), q3_0_n2]) [Value.slice (some ⟨g5, 0, none⟩) (1) (1)] [(ofC 1 2)] := Ow.lit 1 (Seps.grp1 (ls := [[q3_0_n2]]) hg7) (OwAs.cons (m := muns [q3_0_n2]) (c1 := [Value.int .i64 ((ofC 1 2).1), Value.int .i64 ((ofC 1 2).2.1), Value.slice q3_0_A2 (((ofC 1 2).2.2).length) (q3_0_c2)]) (show Ow TCommit _ _ (ofC 1 2) from (mkO_Commit ((ofC 1 2).1) ((ofC 1 2).2.1) ((ofC 1 2).2.2) (Seps.self hg7 (List.Sublist.cons _ (List.Sublist.cons_cons _ List.Sublist.slnil))) bdk bdk (OwnL.ow (Ow.ownl q3_0_2 rfl mnil) rfl))) OwAs.nil) rfl rfl
  refine VO.y rfl (.bst (cs := [Value.int .i64 (2), Value.int .i64 (1), Value.slice (some ⟨g5, 0, none⟩) (1) (1)]) rfl tst24 tz24 rfl) ?_
  refine VO.bsl (cs := [Value.int .u8 (3), Value.int .u8 (2), Value.int .u8 (1), Value.int .u8 (1), Value.int .u8 (9), Value.int .u8 (1), Value.int .u8 (2), Value.int .u8 (1), Value.int .u8 (1), Value.int .u8 (0), Value.int .u8 (1), Value.int .u8 (97), Value.int .u8 (1), Value.int .u8 (49)]) 110 rfl rfl tsl25 tz5 rfl rfl (fun g9 => ?_)
  refine VO.store (k := 3) (c' := [Value.int .i64 (2), Value.int .i64 (1), Value.slice (some ⟨g5, 0, none⟩) (1) (1)]) 102 rfl rfl (.inl tk24) rfl rfl rfl rfl rfl ?_
  refine VO.as ?_
  refine VO.k2 0 1 ?_
  refine VC.ret ?_
  have ho11 : OwnL .byte (mone g9 (.cells [Value.int .u8 (3), Value.int .u8 (2), Value.int .u8 (1), Value.int .u8 (1), Value.int .u8 (9), Value.int .u8 (1), Value.int .u8 (2), Value.int .u8 (1), Value.int .u8 (1), Value.int .u8 (0), Value.int .u8 (1), Value.int .u8 (97), Value.int .u8 (1), Value.int .u8 (49)].toArray 5 (0, 0))) mnil (Value.slice (some ⟨g9, 0, none⟩) (14) (14)) [UInt8.ofNat 3, UInt8.ofNat 2, UInt8.ofNat 1, UInt8.ofNat 1, UInt8.ofNat 9, UInt8.ofNat 1, UInt8.ofNat 2, UInt8.ofNat 1, UInt8.ofNat 1, UInt8.ofNat 0, UInt8.ofNat 1, UInt8.ofNat 97, UInt8.ofNat 1, UInt8.ofNat 49] := OwnL.lit 14 (All2c.cons (c1 := [Value.int .u8 (3)]) (rd_byteN bd) (All2c.cons (c1 := [Value.int .u8 (2)]) (rd_byteN bd) (All2c.cons (c1 := [Value.int .u8 (1)]) (rd_byteN bd) (All2c.cons (c1 := [Value.int .u8 (1)]) (rd_byteN bd) (All2c.cons (c1 := [Value.int .u8 (9)]) (rd_byteN bd) (All2c.cons (c1 := [Value.int .u8 (1)]) (rd_byteN bd) (All2c.cons (c1 := [Value.int .u8 (2)]) (rd_byteN bd) (All2c.cons (c1 := [Value.int .u8 (1)]) (rd_byteN bd) (All2c.cons (c1 := [Value.int .u8 (1)]) (rd_byteN bd) (All2c.cons (c1 := [Value.int .u8 (0)]) (rd_byteN bd) (All2c.cons (c1 := [Value.int .u8 (1)]) (rd_byteN bd) (All2c.cons (c1 := [Value.int .u8 (97)]) (rd_byteN bd) (All2c.cons (c1 := [Value.int .u8 (1)]) (rd_byteN bd) (All2c.cons (c1 := [Value.int .u8 (49)]) (rd_byteN bd) All2c.nil)))))))))))))) rfl rfl
  refine ⟨_, _, res_run (rs := [.cell 0 24, .tmp 1]) rfl (.agg 102 rfl tk24 rfl ⟨_, _, _, mone_self _ _, Nat.le_of_ble_eq_true rfl, rfl⟩ (.tmp rfl .nil)), fun W_ hI => out_of (l := [muns [mone g5 (.cells [Value.int .i64 ((ofC 1 2).1), Value.int .i64 ((ofC 1 2).2.1), Value.slice q3_0_A2 (((ofC 1 2).2.2).length) (q3_0_c2)].toArray 32 (0, 0)), q3_0_n2], mone g9 (.cells [Value.int .u8 (3), Value.int .u8 (2), Value.int .u8 (1), Value.int .u8 (1), Value.int .u8 (9), Value.int .u8 (1), Value.int .u8 (2), Value.int .u8 (1), Value.int .u8 (1), Value.int .u8 (0), Value.int .u8 (1), Value.int .u8 (97), Value.int .u8 (1), Value.int .u8 (49)].toArray 5 (0, 0))]) hI [108, 110] rfl rfl (mle_refl _) (fun hS_ => ?_)⟩
  dsimp only [packV]
  have he0 : (exS : Ty.Den TSection) = (2, 1, [(ofC 1 2)]) := by first | rfl | (simp [*]; done)
  have he1 : (exSB : Ty.Den (.sl .byte)) = [UInt8.ofNat 3, UInt8.ofNat 2, UInt8.ofNat 1, UInt8.ofNat 1, UInt8.ofNat 9, UInt8.ofNat 1, UInt8.ofNat 2, UInt8.ofNat 1, UInt8.ofNat 1, UInt8.ofNat 0, UInt8.ofNat 1, UInt8.ofNat 97, UInt8.ofNat 1, UInt8.ofNat 49] := by first | rfl | (simp [*]; done)
  refine ⟨[Value.int .i64 (2), Value.int .i64 (1), Value.slice (some ⟨g5, 0, none⟩) (1) (1)], Value.slice (some ⟨g9, 0, none⟩) (14) (14), muns [muns [mone g5 (.cells [Value.int .i64 ((ofC 1 2).1), Value.int .i64 ((ofC 1 2).2.1), Value.slice q3_0_A2 (((ofC 1 2).2.2).length) (q3_0_c2)].toArray 32 (0, 0)), q3_0_n2]], muns [mone g9 (.cells [Value.int .u8 (3), Value.int .u8 (2), Value.int .u8 (1), Value.int .u8 (1), Value.int .u8 (9), Value.int .u8 (1), Value.int .u8 (2), Value.int .u8 (1), Value.int .u8 (1), Value.int .u8 (0), Value.int .u8 (1), Value.int .u8 (97), Value.int .u8 (1), Value.int .u8 (49)].toArray 5 (0, 0))], ?_, ?_, ?_, ?_⟩
  rotate_left
  · exact Seps.grp (ls := [[muns [mone g5 (.cells [Value.int .i64 ((ofC 1 2).1), Value.int .i64 ((ofC 1 2).2.1), Value.slice q3_0_A2 (((ofC 1 2).2.2).length) (q3_0_c2)].toArray 32 (0, 0)), q3_0_n2]], [mone g9 (.cells [Value.int .u8 (3), Value.int .u8 (2), Value.int .u8 (1), Value.int .u8 (1), Value.int .u8 (9), Value.int .u8 (1), Value.int .u8 (2), Value.int .u8 (1), Value.int .u8 (1), Value.int .u8 (0), Value.int .u8 (1), Value.int .u8 (97), Value.int .u8 (1), Value.int .u8 (49)].toArray 5 (0, 0))]]) hS_
  · rw [he0]; exact (mkO_Section 2 1 ([(ofC 1 2)]) (Seps.self hS_ (List.Sublist.cons_cons _ (List.Sublist.cons _ List.Sublist.slnil))) bdk bdk ho7)
  · rw [he1]; exact (Ow.up (OwnL.ow ho11 rfl) ((Seps.self hS_ (List.Sublist.cons _ (List.Sublist.cons_cons _ List.Sublist.slnil))).1 _ (.head _)))
  all_goals (first | rfl | (simp [*]; done))
theorem lives19_ok (W : World) : CallR Try.prog 11 [] W (mnil) (fun v m' => v = .bool true) := by
  refine CallR.ofA (n := 41) Try.func11 rfl rfl rfl ?_
  refine VC.rs ?_
  refine VO.as ?_
  refine VO.k1 0 ?_
  refine VC.rs ?_
  refine VO.callN 101 rfl fnOk8 rfl (fun W hW => example19_ok W ) (fun v1 m1 hv1 => ?_)
  obtain ⟨s1_0, s1_1, p1_0, p1_1, rfl, hS1, f1_0, f1_1⟩ := hv1
  refine VO.inv _ (fun _ h => h.parts (i := 101) rfl hS1 [102, 103]) ?_
  obtain ⟨q1_0_A2, q1_0_c2, q1_0_n2, rfl, q1_0_S, q1_0_0, q1_0_1, q1_0_2⟩ := openO_Section (x0 := exS.1) (x1 := exS.2.1) (x2 := exS.2.2) f1_0
  simp only [inK] at q1_0_0
  simp only [inK] at q1_0_1
  have q1_0_r2 := Rd.room (q1_0_2.rd (mle_refl _))
  refine VO.inv _ (fun _ h => h.parts (i := 102) rfl q1_0_S [104]) ?_
  obtain ⟨A1_1, c1_1, eq1_1, l1_1, k1_1⟩ := f1_1.slice
  subst eq1_1
  simp only [maxLen] at k1_1
  refine VO.mv ?_
  refine VO.y rfl (.ext rfl rfl) ?_
  refine VO.y rfl (.ext rfl rfl) ?_
  refine VO.alloc 106 rfl tz24 (fun g5 => ?_)
  refine VO.store (k := 3) (c' := [Value.int .i64 (exS.1), Value.int .i64 (exS.2.1), Value.slice q1_0_A2 (exS.2.2.length) (q1_0_c2)]) 106 rfl rfl (.inl tk24) rfl rfl rfl rfl rfl ?_
  refine VO.as ?_
  refine VO.k3 0 1 2 ?_
  refine VC.rs ?_
  refine VO.y rfl (.ldA 106 rfl tk24 rfl (cellsAt_one rfl rfl)) ?_
  refine VO.callN 107 rfl fnOk16 rfl (fun W hW => sectEncode_ok W (show Rd TSection _ _ exS from (mk_Section (m := wm W) exS.1 exS.2.1 exS.2.2 (by simp only [inK]; (first | omega | (simp only [List.length_append, List.length_nil, List.length_cons, List.length_take, List.length_drop] at *; omega) | (have : exC.length = 6 := rfl; omega) | decide | (have : exSB.length = 14 := rfl; omega))) (by simp only [inK]; (first | omega | (simp only [List.length_append, List.length_nil, List.length_cons, List.length_take, List.length_drop] at *; omega) | (have : exC.length = 6 := rfl; omega) | decide | (have : exSB.length = 14 := rfl; omega))) (Ow.rd q1_0_2 (hW.at (i := 104) rfl))))) (fun v7 m7 hv7 => ?_)
  obtain ⟨s7_0, rfl, f7_0⟩ := hv7
  have hfa8 := sectEncode_len exS
  obtain ⟨A7_0, c7_0, eq7_0, l7_0, k7_0⟩ := f7_0.slice
  subst eq7_0
  simp only [maxLen] at k7_0
  refine VO.mv ?_
  refine VO.y rfl (.ext rfl rfl) ?_
  refine VO.y rfl (.ext rfl rfl) ?_
  refine VO.as ?_
  refine VO.as ?_
  refine VO.keep [107, 106, 104, 103, 0] [(107, m7), (106, mone g5 (.cells [Value.int .i64 (exS.1), Value.int .i64 (exS.2.1), Value.slice q1_0_A2 (exS.2.2.length) (q1_0_c2)].toArray 24 (0, 0))), (104, q1_0_n2), (103, p1_1), (0, wm W)] (by kernel_rfl) ?_
  refine VO.k5 0 1 2 3 4 ?_
  refine VC.rs ?_
  refine VO.mv ?_
  refine VO.bsl (cs := [Value.int .u8 (3), Value.int .u8 (3), Value.int .u8 (1), Value.int .u8 (1)]) 110 rfl rfl tsl25 tz5 rfl rfl (fun g9 => ?_)
  obtain ⟨mo11, cs11, hM11, hA11, hC11⟩ := (Ow.ownl f1_1 rfl mnil)
  refine VO.appK 103 rfl rfl rfl tsl25 tz5 rfl rfl hM11 hA11 (.row 110 _ _ _ 4 4 _ _ Try.underlying25 rfl (cellsAt_one rfl rfl)) (by simp [Value.oneCell']) (by simp only [maxLen]; (first | omega | (simp only [List.length_append, List.length_nil, List.length_cons, List.length_take, List.length_drop] at *; omega) | (have : exC.length = 6 := rfl; omega) | decide | (have : exSB.length = 14 := rfl; omega))) (by first | omega | (simp only [List.length_append, List.length_nil, List.length_cons, List.length_take, List.length_drop] at *; omega) | (have : exC.length = 6 := rfl; omega) | decide | (have : exSB.length = 14 := rfl; omega)) (by decide) (fun v11 m11 mk11 hmk11 hN11 hK11 => ?_)
  have ho11 : OwnL .byte mk11 mnil v11 (exSB ++ [UInt8.ofNat 3, UInt8.ofNat 3, UInt8.ofNat 1, UInt8.ofNat 1]) := OwnL.more (ys := [UInt8.ofNat 3, UInt8.ofNat 3, UInt8.ofNat 1, UInt8.ofNat 1]) hC11 hN11 (All2c.cons (c1 := [Value.int .u8 (3)]) (rd_byteN (by first | omega | (simp only [List.length_append, List.length_nil, List.length_cons, List.length_take, List.length_drop] at *; omega) | (have : exC.length = 6 := rfl; omega) | decide | (have : exSB.length = 14 := rfl; omega))) (All2c.cons (c1 := [Value.int .u8 (3)]) (rd_byteN (by first | omega | (simp only [List.length_append, List.length_nil, List.length_cons, List.length_take, List.length_drop] at *; omega) | (have : exC.length = 6 := rfl; omega) | decide | (have : exSB.length = 14 := rfl; omega))) (All2c.cons (c1 := [Value.int .u8 (1)]) (rd_byteN (by first | omega | (simp only [List.length_append, List.length_nil, List.length_cons, List.length_take, List.length_drop] at *; omega) | (have : exC.length = 6 := rfl; omega) | decide | (have : exSB.length = 14 := rfl; omega))) (All2c.cons (c1 := [Value.int .u8 (1)]) (rd_byteN (by first | omega | (simp only [List.length_append, List.length_nil, List.length_cons, List.length_take, List.length_drop] at *; omega) | (have : exC.length = 6 := rfl; omega) | decide | (have : exSB.length = 14 := rfl; omega))) All2c.nil))))
  replace ho11 := OwnL.up ho11 hmk11
  have hkp11 : Rd (.sl .byte) (m11) [Value.slice A1_1 (exSB.length) (c1_1)] exSB := KeptA.rd hK11 (All2c.mono hC11 fun _ _ h => Rd.flat rfl h _)
  obtain ⟨A11, c11, rfl, l11, k11⟩ := ho11.slice
  simp only [maxLen] at k11
  refine VO.callN 112 rfl fnOk18 rfl (fun W hW => oScan_ok W (OwnL.rd ho11 (hW.at (i := 103) rfl) (mle_nil _)) (by first | omega | (simp only [List.length_append, List.length_nil, List.length_cons, List.length_take, List.length_drop] at *; omega) | (have : exC.length = 6 := rfl; omega) | decide | (have : exSB.length = 14 := rfl; omega))) (fun v12 m12 hv12 => ?_)
  obtain ⟨s12_0, rfl, f12_0⟩ := hv12
  have hfa13 := scanF_bounds (exSB ++ [UInt8.ofNat 3, UInt8.ofNat 3, UInt8.ofNat 1, UInt8.ofNat 1])
  obtain ⟨A12_0, c12_0, eq12_0, l12_0, k12_0⟩ := f12_0.slice
  subst eq12_0
  simp only [maxLen] at k12_0
  refine VO.mv ?_
  refine VO.y rfl (.ext rfl rfl) ?_
  refine VO.y rfl (.ext rfl rfl) ?_
  refine VO.as ?_
  refine VO.as ?_
  refine VO.k7 0 1 2 3 4 5 6 ?_
  refine VC.rs ?_
  refine VO.mv ?_
  refine VO.y rfl (.eql rfl rfl) ?_
  refine VO.mv ?_
  refine VO.dec (t := 25) rfl (fun hc14 => ?_) (fun hc14 => ?_)
  · -- T
    refine VO.gy rfl ⟨_, rfl, rfl⟩ (.mv rfl) ?_
    refine VO.gy rfl ⟨_, rfl, rfl⟩ (.mv rfl) ?_
    have hs15 := hkp11.pre (j := 14) (by first | omega | (simp only [List.length_append, List.length_nil, List.length_cons, List.length_take, List.length_drop] at *; omega) | (have : exC.length = 6 := rfl; omega) | decide | (have : exSB.length = 14 := rfl; omega))
    refine VO.gy rfl ⟨_, rfl, rfl⟩ (.slHI 14 rfl rfl tsl25 rfl (by first | omega | (simp only [List.length_append, List.length_nil, List.length_cons, List.length_take, List.length_drop] at *; omega) | (have : exC.length = 6 := rfl; omega) | decide | (have : exSB.length = 14 := rfl; omega))) ?_
    refine VO.gcallN 116 rfl ⟨_, rfl, rfl⟩ fnOk21 rfl (fun W hW => SameBytes_ok W (OwnL.rd (Ow.ownl f7_0 rfl mnil) (hW.at (i := 107) rfl) (mle_nil _)) (Rd.mono hs15 (hW.at (i := 103) rfl))) (fun v16 m16 hv16 => ?_)
    subst hv16
    refine VO.y rfl (.pT rfl rfl) ?_
    refine VO.mv ?_
    refine VO.dec (t := 31) rfl (fun hc17 => ?_) (fun hc17 => ?_)
    · -- TT
      refine VO.gy rfl ⟨_, rfl, rfl⟩ (.mv rfl) ?_
      refine VO.gy rfl ⟨_, rfl, rfl⟩ (.eql rfl rfl) ?_
      refine VO.y rfl (.pT rfl rfl) ?_
      refine VO.mv ?_
      refine VO.dec (t := 35) rfl (fun hc18 => ?_) (fun hc18 => ?_)
      · -- TTT
        refine VO.gy rfl ⟨_, rfl, rfl⟩ (.mv rfl) ?_
        refine VO.gy rfl ⟨_, rfl, rfl⟩ (.ldA 106 rfl tk24 rfl (cellsAt_one rfl rfl)) ?_
        refine VO.gbsl (cs := [Value.int .i64 (exS.1), Value.int .i64 (exS.2.1), Value.slice q1_0_A2 (exS.2.2.length) (q1_0_c2)]) 120 rfl ⟨_, rfl, rfl⟩ rfl tsl41 tz24 rfl rfl (fun g19 => ?_)
        refine VO.gather (l := [mone g19 (.cells [Value.int .i64 (exS.1), Value.int .i64 (exS.2.1), Value.slice q1_0_A2 (exS.2.2.length) (q1_0_c2)].toArray 24 (0, 0)), q1_0_n2]) 123 [120, 104] rfl (fun hg22 => ?_)
        have ho22 : Ow (.sl TSection) (muns [mone g19 (.cells [Value.int .i64 (exS.1), Value.int .i64 (exS.2.1), Value.slice q1_0_A2 (exS.2.2.length) (q1_0_c2)].toArray 24 (0, 0)), q1_0_n2]) [Value.slice (some ⟨g19, 0, none⟩) (1) (1)] [exS] := Ow.lit 1 (Seps.grp1 (ls := [[q1_0_n2]]) hg22) (OwAs.cons (m := muns [q1_0_n2]) (c1 := [Value.int .i64 (exS.1), Value.int .i64 (exS.2.1), Value.slice q1_0_A2 (exS.2.2.length) (q1_0_c2)]) (show Ow TSection _ _ exS from (mkO_Section exS.1 exS.2.1 exS.2.2 (Seps.self hg22 (List.Sublist.cons _ (List.Sublist.cons_cons _ List.Sublist.slnil))) (by simp only [inK]; (first | omega | (simp only [List.length_append, List.length_nil, List.length_cons, List.length_take, List.length_drop] at *; omega) | (have : exC.length = 6 := rfl; omega) | decide | (have : exSB.length = 14 := rfl; omega))) (by simp only [inK]; (first | omega | (simp only [List.length_append, List.length_nil, List.length_cons, List.length_take, List.length_drop] at *; omega) | (have : exC.length = 6 := rfl; omega) | decide | (have : exSB.length = 14 := rfl; omega))) q1_0_2)) OwAs.nil) rfl rfl
        refine VO.gcallN 121 rfl ⟨_, rfl, rfl⟩ fnOk22 rfl (fun W hW => SameSections_ok W (Ow.rd f12_0 (hW.at (i := 112) rfl)) (Ow.rd ho22 (hW.at (i := 123) rfl))) (fun v21 m21 hv21 => ?_)
        subst hv21
        refine VO.y rfl (.pT rfl rfl) ?_
        refine VO.as ?_
        refine VO.k7 0 1 2 3 4 5 6 ?_
        refine VC.ret ?_
        refine ⟨_, _, res_run (rs := [.tmp 0]) rfl (.tmp rfl .nil), fun W_ hI => out_of (l := []) hI [] rfl rfl (mle_refl _) (fun hS_ => ?_)⟩
        dsimp only [packV]
        all_goals (first | rfl | (first | exact congrArg Value.bool (decide_eq_true (by subst_vars; first | rfl | decide | (simp only [ex19E, ex19D, ex19F]; done) | (simp only [ex19E, ex19D, ex19F]; first | rfl | decide) | exact ex19H.1 | (rw [ex19H.1]; done) | (rw [ex19H.2]; done))) | (simp only [ex19H.1, ex19H.2]; rfl)))
      · -- TTF
        first | exact absurd (by subst_vars; first | rfl | decide | (simp only [ex19E, ex19D, ex19F]; done) | (simp only [ex19E, ex19D, ex19F]; first | rfl | decide) | exact ex19H.1 | (rw [ex19H.1]; done) | (rw [ex19H.2]; done)) hc18 | (rw [ex19H.1] at hc18; cases hc18) | (rw [ex19H.2] at hc18; cases hc18)
    · -- TF
      first | exact absurd (by subst_vars; first | rfl | decide | (simp only [ex19E, ex19D, ex19F]; done) | (simp only [ex19E, ex19D, ex19F]; first | rfl | decide) | exact ex19H.1 | (rw [ex19H.1]; done) | (rw [ex19H.2]; done)) hc17 | (rw [ex19H.1] at hc17; cases hc17) | (rw [ex19H.2] at hc17; cases hc17)
  · -- F
    first | exact absurd (by subst_vars; first | rfl | decide | (simp only [ex19E, ex19D, ex19F]; done) | (simp only [ex19E, ex19D, ex19F]; first | rfl | decide) | exact ex19H.1 | (rw [ex19H.1]; done) | (rw [ex19H.2]; done)) hc14 | (rw [ex19H.1] at hc14; cases hc14) | (rw [ex19H.2] at hc14; cases hc14)
end
section
set_option linter.unusedVariables false
set_option linter.unusedSimpArgs false
set_option maxRecDepth 4000
theorem fnOk13 : fnOk Try.prog 13 = true := by kernel_rfl
theorem fnOk28 : fnOk Try.prog 28 = true := by kernel_rfl
theorem fnOk29 : fnOk Try.prog 29 = true := by kernel_rfl
theorem fnOk30 : fnOk Try.prog 30 = true := by kernel_rfl
theorem fnOk39 : fnOk Try.prog 39 = true := by kernel_rfl
theorem fnOk44 : fnOk Try.prog 44 = true := by kernel_rfl
theorem fnOk46 : fnOk Try.prog 46 = true := by kernel_rfl
theorem fnOk48 : fnOk Try.prog 48 = true := by kernel_rfl
end
section
set_option linter.unusedVariables false
/-- where each of the first i sections ends -/
def endsOk (l : List DSection) (ends : List Int) (i : Nat) : Prop := ends.length = i ∧ ∀ j x, ends[j]? = some x → x = ((sectEncs (l.take (j + 1))).length : Int)
theorem endsOk_nil {l : List DSection} : endsOk l [] 0 := ⟨rfl, fun j x h => by cases h⟩
theorem enc_good {s : DSection} (h : ¬ ¬ (sectEncode s).2 = 0) : sectCheck s = 0 ∧ (sectEncode s).1 = sectEnc s := by
  rw [enc_err] at h
  have h0 := Decidable.not_not.1 h
  exact ⟨h0, by rw [sectEncode_good h]⟩
section
variable {l : List DSection} {i : Nat} {s : DSection} {b : Bytes} {ends : List Int} {last : Int}
theorem torn_b (hb : b = sectEncs (l.take i)) (hx : l[i]? = some s) (h : ¬ ¬ (sectEncode s).2 = 0) : b ++ (sectEncode s).1 = sectEncs (l.take (i + 1)) := by
  rw [hb, (enc_good h).2, take_one hx, sectEncs_app]; simp [sectEncs]
theorem torn_r (hr : riseS 0 (l.take i) ∧ lastEp 0 (l.take i) = last) (hx : l[i]? = some s) (h : ¬ ¬ (sectEncode s).2 = 0) (he : last < s.1) : riseS 0 (l.take (i + 1)) ∧ lastEp 0 (l.take (i + 1)) = s.1 := by
  have h1 := rise_snoc hr.1 hx (enc_good h).1 (by rw [hr.2]; exact he)
  exact ⟨h1.1, h1.2.1⟩
theorem torn_s (h : ¬ ¬ (sectEncode s).2 = 0) (h2 : ¬ ¬ smallS s) : sectCheck s = 0 ∧ smallS s := ⟨(enc_good h).1, Decidable.not_not.1 h2⟩
theorem endsOk_next (he : endsOk l ends i) (hb : b = sectEncs (l.take i)) (hx : l[i]? = some s) (h : ¬ ¬ (sectEncode s).2 = 0) : endsOk l (ends ++ [((b ++ (sectEncode s).1).length : Int)]) (i + 1) := by
  refine ⟨by rw [List.length_append, he.1]; rfl, fun j x hj => ?_⟩
  rw [List.getElem?_append] at hj
  split at hj
  · exact he.2 j x hj
  · rename_i h0
    have e : j = i := by
      rw [he.1] at h0 hj
      obtain ⟨h1, _⟩ := List.getElem?_eq_some_iff.1 hj
      simp only [List.length_cons, List.length_nil] at h1
      omega
    subst e
    rw [he.1, Nat.sub_self] at hj
    simp only [List.getElem?_cons_zero, Option.some.injEq] at hj
    rw [← hj, torn_b hb hx h]
theorem endsOk_at {n : Nat} {x : Int} (he : endsOk l ends i) (hx : ends[n]? = some x) : x = ((sectEncs (l.take (n + 1))).length : Int) := he.2 n x hx
end
section
variable {d : DDisk} {X B : Bytes} {s : DSection} {base n k t : Int}
theorem ag_pg (hX : X.length ≤ 1000000000) : Pg (dSync (dWrite newD 3 X).1).1 ([], [], [], X) ([], [], [], X) ∧ (dSync (dWrite newD 3 X).1).1.2.1 = false := by
  obtain ⟨h1, h2, h3, h4, h5⟩ := ag_first hX
  have := pg_none h3 h5
  rw [h4] at this
  exact ⟨this, h3.on⟩
theorem ag_orph3 (h : Pg d ([], [], [], X) ([], [], [], X)) (ho : d.2.1 = false) (hs : sectCheck s = 0) (hb : base = X.length) :
    (((orphW d base s).2 = 0 ∧ (orphW d base s).1.2.1 = false) ∨ ((orphW d base s).2 = 6 ∧ (orphW d base s).1.2.1 = true)) ∧ Ag (orphW d base s).1 X (sectEnc s) ∧ (orphW d base s).1.1 = true := ag_orph h ho hs hb
theorem ag_base (hX : B = X ++ sectEnc s) (hs : sectCheck s = 0) : B.take ((B.length : Int) - ((sectEncode s).1.length : Int)).toNat = X ∧ (B.length : Int) - ((sectEncode s).1.length : Int) = X.length := by
  have e : (sectEncode s).1 = sectEnc s := by rw [sectEncode_good (fun q => q hs)]
  rw [e, hX, List.length_append]
  have : (((X.length + (sectEnc s).length : Nat) : Int) - ((sectEnc s).length : Int)) = X.length := by omega
  rw [this, Int.toNat_natCast, List.take_left]
  exact ⟨rfl, rfl⟩
theorem ag_len {X' : Bytes} (h : X' = X) (hb : base = X.length) : base = (X'.length : Int) := by rw [h]; exact hb
theorem ag_eq {e : Int} {p q : Bool} (h : (e = 0 ∧ q = false) ∨ (e = 6 ∧ q = true)) (hp : p = true) : decide (e = 0) = decide (p = true ∧ q = false) := by
  rcases h with ⟨rfl, rfl⟩ | ⟨rfl, rfl⟩ <;> simp [hp]
end
section
variable {l : List DSection} {i n : Nat} {b : Bytes} {ends : List Int} {last good at_ : Int} {s : DSection}
theorem torn_all (hi : ¬ (i : Int) < l.length) (hb : b = sectEncs (l.take i)) (hr : riseS 0 (l.take i) ∧ lastEp 0 (l.take i) = last) : b = sectEncs l ∧ riseS 0 l := by
  rw [List.take_of_length_le (by omega)] at hb hr
  exact ⟨hb, hr.1⟩
theorem torn_end (hi : ¬ (i : Int) < l.length) (hb : b = sectEncs (l.take i)) (hr : riseS 0 (l.take i) ∧ lastEp 0 (l.take i) = last) (he : endsOk l ends i) (hn : n ≤ l.length) (hg : good = ((sectEncs (l.take n)).length : Int)) (hga : good ≤ at_) (hat : at_ ≤ b.length)
    (hx : ¬ (n : Int) < l.length ∨ ∃ x, ends[n]? = some x ∧ ¬ x ≤ at_) : scanF (b.take at_.toNat) = (l.take n, good) := by
  obtain ⟨hb', hr'⟩ := torn_all hi hb hr
  rw [hb'] at hat ⊢
  rw [torn_scan hr' hn (by omega) (by omega) (hx.imp (fun h => by omega) fun ⟨x, h1, h2⟩ => by have := he.2 n x h1; omega), hg]
theorem torn_last (hi : ¬ (i : Int) < l.length) (hb : b = sectEncs (l.take i)) (hr : riseS 0 (l.take i) ∧ lastEp 0 (l.take i) = last) (hx : l[((l.length : Int) - 1).toNat]? = some s) : sectCheck s = 0 ∧ ∃ X, b = X ++ sectEnc s := by
  obtain ⟨hb', hr'⟩ := torn_all hi hb hr
  refine ⟨rise_checks hr' s (List.mem_of_getElem? hx), sectEncs (l.take ((l.length : Int) - 1).toNat), ?_⟩
  have h1 := (List.getElem?_eq_some_iff.1 hx).1
  have := take_one hx
  rw [List.take_of_length_le (by omega)] at this
  rw [hb']
  conv => lhs; rw [this]
  rw [sectEncs_app]; simp [sectEncs]
end
end
end Go.Proofs.Ytbjkfnnabnacfaa
