/- Part 6 of the proof of LOrphanWrite: what it needs of the library, the walks and the plain laws. Conditions: those named in each theorem. -/
import Derived.Test.YtbjkfnnabnacfaaLOrphanWriteM5
namespace Go.Proofs.Ytbjkfnnabnacfaa
section
set_option linter.unusedVariables false
set_option linter.unusedSimpArgs false
set_option maxRecDepth 4000
theorem fnOk20 : fnOk Try.prog 20 = true := by kernel_rfl
theorem fnOk51 : fnOk Try.prog 51 = true := by kernel_rfl
theorem fnOk55 : fnOk Try.prog 55 = true := by kernel_rfl
theorem fnOk56 : fnOk Try.prog 56 = true := by kernel_rfl
theorem fnOk59 : fnOk Try.prog 59 = true := by kernel_rfl
theorem fnOk60 : fnOk Try.prog 60 = true := by kernel_rfl
theorem fnOk62 : fnOk Try.prog 62 = true := by kernel_rfl
theorem fnOk9 : fnOk Try.prog 9 = true := by kernel_rfl
theorem fnOk91 : fnOk Try.prog 91 = true := by kernel_rfl
theorem fnOk92 : fnOk Try.prog 92 = true := by kernel_rfl
theorem fnOk93 : fnOk Try.prog 93 = true := by kernel_rfl
theorem tar80 : tar Try.prog 80 = some (3, 1) := by kernel_rfl
theorem tia80 : tia Try.prog 80 = some (3, 3, 1) := by kernel_rfl
theorem tk24 : tk Try.prog 24 = some (some 3) := by kernel_rfl
theorem tsl41 : tsl Try.prog 41 = some (24, 3, 40) := by kernel_rfl
theorem tst24 : tst Try.prog 24 = some [(0, 1), (1, 1), (2, 1)] := by kernel_rfl
theorem tz24 : tz Try.prog 24 = some [.int .i64 0, .int .i64 0, .slice none 0 0] := by kernel_rfl
theorem tz80 : tz Try.prog 80 = some [.int .i64 0, .int .i64 0, .int .i64 0] := by kernel_rfl
theorem tk22 : tk Try.prog 22 = some none := by kernel_rfl
theorem fin0_sectCheck_ok {P : Prop} (h : P := by congr 1; first | exact (sect_bad1 (by omega)).symm | exact (sect_bad2 (by omega) (by omega) (by omega) (by omega) (by first | assumption | exact fol_ne (by assumption) | exact fol_eq (by assumption))).symm | exact (sect_bad3 (by omega) (by omega) (by omega) (by omega) (by first | assumption | exact fol_ne (by assumption) | exact fol_eq (by assumption)) ‹_[_]? = some _› (by omega) (by omega)).symm | exact (sect_good (by omega) (by omega) (by omega) (by omega) (by first | assumption | exact fol_ne (by assumption) | exact fol_eq (by assumption)) ‹_[_]? = some _› (by omega) (by omega)).symm) : P := h
theorem sectCheck_ok (W : World) {v0 : List Value} {d0 : DSection} (h0 : Rd TSection (wm W) v0 d0) : CallR Try.prog 9 [.agg v0.toArray] W (mnil) (fun v m' => v = .int .i64 (sectCheck d0)) := by
 obtain ⟨p0_A2, p0_c2, rfl, p0_0, p0_1, p0_2⟩ := open_Section (x0 := d0.1) (x1 := d0.2.1) (x2 := d0.2.2) h0
 simp only [inK] at p0_0 p0_1
 have p0_r2 := Rd.room p0_2
 refine CallR.ofA (n := 45) Try.func9 rfl rfl rfl ?_
 refine VC.rs ?_
 refine VO.box (cs := [.int .i64 (d0.1), .int .i64 (d0.2.1), .slice p0_A2 (d0.2.2.length) (p0_c2)]) 102 rfl rfl rfl (fun g1 => ?_)
 refine VO.as (VO.k3 0 1 2 (VC.seq (VC.rs (VO.y rfl (.fa rfl tst24 rfl) (VO.y rfl (.ld1 102 rfl tk3 rfl (cellsAt_one rfl rfl)) (VO.y rfl (.lss rfl rfl) (VO.mv ?_)))))))
 refine VO.dec (t := 7) rfl (fun hc3 => ?_) (fun hc3 => ?_)
 · refine VO.gN (VO.gN (VO.gN (VO.y rfl (.pT rfl rfl) (VO.mv (VO.gN (VO.gN (VO.gN (VO.y rfl (.pT rfl rfl) (VO.mv (VO.gN (VO.gN ?_)))))))))))
   refine VO.gN (VO.gN (VO.y rfl (.pT rfl rfl) (VO.k4 0 1 2 22 (VC.condT rfl (VC.rs (VO.as ?_))))))
   refine VO.kp [102, 0] [(102, mone g1 (.cells #[.int .i64 (d0.1), .int .i64 (d0.2.1), .slice p0_A2 (d0.2.2.length) (p0_c2)] 24 (0, 0))), (0, wm W)] ?_
   refine VO.k4 0 1 2 22 (VC.ret (outR ?_))
   refine ⟨_, _, res_run (rs := [.tmp 2]) rfl (.tmp rfl .nil), fun W_ hI => out_of (l := []) hI [] rfl rfl (mle_refl _) (fun hS_ => ?_)⟩
   dsimp only [packV]
   all_goals (first | rfl | (exact fin0_sectCheck_ok))
 refine VO.gy rfl ⟨_, rfl, rfl⟩ (.fa rfl tst24 rfl) ?_
 refine VO.gy rfl ⟨_, rfl, rfl⟩ (.ld1 102 rfl tk3 rfl (cellsAt_one rfl rfl)) ?_
 refine VO.gy rfl ⟨_, rfl, rfl⟩ (.gtr rfl rfl) (VO.y rfl (.pF rfl rfl) (VO.mv ?_))
 refine VO.dec (t := 12) rfl (fun hc4 => ?_) (fun hc4 => ?_)
 · refine VO.gN (VO.gN (VO.gN (VO.y rfl (.pT rfl rfl) (VO.mv (VO.gN (VO.gN (VO.gN (VO.gN (VO.y rfl (.pT rfl rfl) (VO.k4 0 1 2 22 (VC.condT rfl ?_)))))))))))
   refine VC.rs (VO.as ?_)
   refine VO.kp [102, 0] [(102, mone g1 (.cells #[.int .i64 (d0.1), .int .i64 (d0.2.1), .slice p0_A2 (d0.2.2.length) (p0_c2)] 24 (0, 0))), (0, wm W)] ?_
   refine VO.k4 0 1 2 22 (VC.ret (outR ?_))
   refine ⟨_, _, res_run (rs := [.tmp 2]) rfl (.tmp rfl .nil), fun W_ hI => out_of (l := []) hI [] rfl rfl (mle_refl _) (fun hS_ => ?_)⟩
   dsimp only [packV]
   all_goals (first | rfl | (exact fin0_sectCheck_ok))
 refine VO.gy rfl ⟨_, rfl, rfl⟩ (.fa rfl tst24 rfl) ?_
 refine VO.gy rfl ⟨_, rfl, rfl⟩ (.ld1 102 rfl tk3 rfl (cellsAt_one rfl rfl)) ?_
 refine VO.gy rfl ⟨_, rfl, rfl⟩ (.lss rfl rfl) (VO.y rfl (.pF rfl rfl) (VO.mv ?_))
 refine VO.dec (t := 17) rfl (fun hc5 => ?_) (fun hc5 => ?_)
 · refine VO.gN (VO.gN (VO.gN (VO.gN (VO.y rfl (.pT rfl rfl) (VO.k4 0 1 2 22 (VC.condT rfl (VC.rs (VO.as ?_))))))))
   refine VO.kp [102, 0] [(102, mone g1 (.cells #[.int .i64 (d0.1), .int .i64 (d0.2.1), .slice p0_A2 (d0.2.2.length) (p0_c2)] 24 (0, 0))), (0, wm W)] ?_
   refine VO.k4 0 1 2 22 (VC.ret (outR ?_))
   refine ⟨_, _, res_run (rs := [.tmp 2]) rfl (.tmp rfl .nil), fun W_ hI => out_of (l := []) hI [] rfl rfl (mle_refl _) (fun hS_ => ?_)⟩
   dsimp only [packV]
   all_goals (first | rfl | (exact fin0_sectCheck_ok))
 refine VO.gy rfl ⟨_, rfl, rfl⟩ (.fa rfl tst24 rfl) ?_
 refine VO.gy rfl ⟨_, rfl, rfl⟩ (.ld1 102 rfl tk22 rfl (cellsAt_one rfl rfl)) ?_
 refine VO.gy rfl ⟨_, rfl, rfl⟩ (.lenS rfl tsl22) ?_
 refine VO.gy rfl ⟨_, rfl, rfl⟩ (.eql rfl rfl) (VO.y rfl (.pF rfl rfl) (VO.k4 0 1 2 22 ?_))
 refine VC.cond rfl (fun hc6 => ?_) (fun hc6 => ?_)
 · refine VC.rs (VO.as ?_)
   refine VO.kp [102, 0] [(102, mone g1 (.cells #[.int .i64 (d0.1), .int .i64 (d0.2.1), .slice p0_A2 (d0.2.2.length) (p0_c2)] 24 (0, 0))), (0, wm W)] ?_
   refine VO.k4 0 1 2 22 (VC.ret (outR ?_))
   refine ⟨_, _, res_run (rs := [.tmp 2]) rfl (.tmp rfl .nil), fun W_ hI => out_of (l := []) hI [] rfl rfl (mle_refl _) (fun hS_ => ?_)⟩
   dsimp only [packV]
   all_goals (first | rfl | (exact fin0_sectCheck_ok))
 refine VC.skip (outN (VC.seq (VC.rs (VO.y rfl (.fa rfl tst24 rfl) (VO.y rfl (.ld1 102 rfl tk3 rfl (cellsAt_one rfl rfl)) (VO.y rfl (.fa rfl tst24 rfl) (VO.y rfl (.ld1 102 rfl tk22 rfl (cellsAt_one rfl rfl)) ?_)))))))
 refine VO.callN 107 rfl fnOk51 rfl (fun W hW => follows_ok W 1 bdk d0.2.1 bdk (Rd.mono p0_2 (hW.at (i := 0) rfl))) (fun v7 m7 hv7 => ?_)
 obtain ⟨s7_0, rfl, f7_0⟩ := hv7
 obtain ⟨rfl, q7_0_0, q7_0_1⟩ := open_Fault (x0 := (cFollows 1 d0.2.1 d0.2.2).1) (x1 := (cFollows 1 d0.2.1 d0.2.2).2) (f7_0.rd (mle_refl _))
 simp only [inK] at q7_0_0 q7_0_1
 refine VO.alloc 109 rfl tz75 (fun g8 => ?_)
 refine VO.store (k := 2) (c' := [Value.int .i64 ((cFollows 1 d0.2.1 d0.2.2).1), Value.int .i64 ((cFollows 1 d0.2.1 d0.2.2).2)]) 109 rfl rfl (.inl tk75) rfl rfl rfl rfl rfl ?_
 refine VO.kp [109, 102, 0] [(109, mone g8 (.cells #[.int .i64 ((cFollows 1 d0.2.1 d0.2.2).1), .int .i64 ((cFollows 1 d0.2.1 d0.2.2).2)] 75 (0, 0))), (102, mone g1 (.cells #[.int .i64 (d0.1), .int .i64 (d0.2.1), .slice p0_A2 (d0.2.2.length) (p0_c2)] 24 (0, 0))), (0, wm W)] ?_
 refine VO.k5 0 1 2 3 22 (VC.rs (VO.y rfl (.fa rfl tst75 rfl) (VO.y rfl (.ld1 109 rfl tk28 rfl (cellsAt_one rfl rfl)) (VO.y rfl (.neq rfl rfl) (VO.k6 0 1 2 3 22 30 ?_)))))
 refine VC.cond rfl (fun hc10 => ?_) (fun hc10 => ?_)
 · refine VC.rs (VO.y rfl (.fa rfl tst75 rfl) (VO.y rfl (.ld1 109 rfl tk28 rfl (cellsAt_one rfl rfl)) (VO.as (VO.k6 0 1 2 3 22 30 (VC.ret (outR ?_))))))
   refine ⟨_, _, res_run (rs := [.tmp 2]) rfl (.tmp rfl .nil), fun W_ hI => out_of (l := []) hI [] rfl rfl (mle_refl _) (fun hS_ => ?_)⟩
   dsimp only [packV]
   all_goals (first | rfl | (exact fin0_sectCheck_ok))
 refine VC.skip (outN (VC.seq (VC.seq ?_)))
 refine VC.regD _ 11 [(0, true), (1, true), (2, true), (3, true), (4, true), (5, true), (6, true), (7, true), (8, true), (9, true), (10, true)] follows (by kernel_rfl) (fun _ h => h.sub [109, 102, 0]) ?_
 refine VD.y rfl rfl (.inl rfl) (.fa rfl tst24 rfl) (VD.y rfl rfl (.inl rfl) (.ld1 102 rfl tk22 rfl (cellsAt_one rfl rfl)) (VD.y rfl rfl (.inl rfl) (.fa rfl tst24 rfl) (VD.y rfl rfl (.inl rfl) (.ld1 102 rfl tk22 rfl (cellsAt_one rfl rfl)) ?_)))
 refine VD.y rfl rfl (.inl rfl) (.lenS rfl tsl22) ?_
 refine VD.y rfl rfl (.inl rfl) (.sub rfl rfl rfl ⟨bd, bd⟩) ?_
 obtain ⟨x11, hx11⟩ : ∃ z_, (d0.2.2)[(((d0.2.2.length : Nat) : Int) - 1).toNat]? = some z_ := ⟨_, List.getElem?_eq_getElem bd⟩
 obtain ⟨gg11, oo11, ec11, ea11, hce11, hre11⟩ := p0_2.elem hx11
 cases ea11
 obtain ⟨q11_A2, q11_c2, rfl, q11_0, q11_1, q11_2⟩ := open_Commit (x0 := x11.1) (x1 := x11.2.1) (x2 := x11.2.2) hre11
 simp only [inK] at q11_0 q11_1
 have q11_r2 := Rd.room q11_2
 refine VD.y rfl rfl (.inl rfl) (.ixI ((((d0.2.2.length : Nat) : Int) - 1).toNat) rfl rfl tsl22 bd bd) ?_
 refine VD.y rfl rfl (.inl rfl) (.fa rfl tst32 rfl) ?_
 refine VD.y rfl rfl (.inl rfl) (.ld1 0 rfl tk3 rfl (hce11.at1 (j := 0) rfl)) ?_
 refine VD.y rfl rfl (.inl rfl) (.fa rfl tst24 rfl) (VD.y rfl rfl (.inl rfl) (.ld1 102 rfl tk3 rfl (cellsAt_one rfl rfl)) ?_)
 refine VD.nil rfl ?_ rfl
 refine VO.y rfl (.geq rfl rfl) (VO.k7 0 1 2 3 22 30 44 (outN ?_))
 refine VC.cond rfl (fun hc12 => ?_) (fun hc12 => ?_)
 · refine VC.rs (VO.as ?_)
   refine VO.kp [109, 102, 0] [(109, mone g8 (.cells #[.int .i64 ((cFollows 1 d0.2.1 d0.2.2).1), .int .i64 ((cFollows 1 d0.2.1 d0.2.2).2)] 75 (0, 0))), (102, mone g1 (.cells #[.int .i64 (d0.1), .int .i64 (d0.2.1), .slice (some ⟨gg11, oo11, none⟩) (d0.2.2.length) (p0_c2)] 24 (0, 0))), (0, wm W)] ?_
   refine VO.k7 0 1 2 3 22 30 44 (VC.ret (outR ?_))
   refine ⟨_, _, res_run (rs := [.tmp 2]) rfl (.tmp rfl .nil), fun W_ hI => out_of (l := []) hI [] rfl rfl (mle_refl _) (fun hS_ => ?_)⟩
   dsimp only [packV]
   all_goals (first | rfl | (exact fin0_sectCheck_ok))
 · refine VC.skip (outN (VC.rs (VO.as ?_)))
   refine VO.kp [109, 102, 0] [(109, mone g8 (.cells #[.int .i64 ((cFollows 1 d0.2.1 d0.2.2).1), .int .i64 ((cFollows 1 d0.2.1 d0.2.2).2)] 75 (0, 0))), (102, mone g1 (.cells #[.int .i64 (d0.1), .int .i64 (d0.2.1), .slice (some ⟨gg11, oo11, none⟩) (d0.2.2.length) (p0_c2)] 24 (0, 0))), (0, wm W)] ?_
   refine VO.k7 0 1 2 3 22 30 44 (VC.ret ?_)
   refine ⟨_, _, res_run (rs := [.tmp 2]) rfl (.tmp rfl .nil), fun W_ hI => out_of (l := []) hI [] rfl rfl (mle_refl _) (fun hS_ => ?_)⟩
   dsimp only [packV]
   all_goals (first | rfl | (exact fin0_sectCheck_ok))
theorem fin0_s19Check_ok {P : Prop} (h : P := by congr 1; first | exact (sect_bad1 (by omega)).symm | exact (sect_bad2 (by omega) (by omega) (by omega) (by omega) (by first | assumption | exact fol_ne (by assumption) | exact fol_eq (by assumption))).symm | exact (sect_bad3 (by omega) (by omega) (by omega) (by omega) (by first | assumption | exact fol_ne (by assumption) | exact fol_eq (by assumption)) ‹_[_]? = some _› (by omega) (by omega)).symm | exact (sect_good (by omega) (by omega) (by omega) (by omega) (by first | assumption | exact fol_ne (by assumption) | exact fol_eq (by assumption)) ‹_[_]? = some _› (by omega) (by omega)).symm) : P := h
theorem s19Check_ok (W : World) {v0 : List Value} {d0 : DSection} (h0 : Rd TSection (wm W) v0 d0) : CallR Try.prog 20 [.agg v0.toArray] W (mnil) (fun v m' => v = .int .i64 (sectCheck d0)) := by
 obtain ⟨p0_A2, p0_c2, rfl, p0_0, p0_1, p0_2⟩ := open_Section (x0 := d0.1) (x1 := d0.2.1) (x2 := d0.2.2) h0
 simp only [inK] at p0_0 p0_1
 have p0_r2 := Rd.room p0_2
 refine CallR.ofA (n := 45) Try.func20 rfl rfl rfl ?_
 refine VC.rs ?_
 refine VO.box (cs := [.int .i64 (d0.1), .int .i64 (d0.2.1), .slice p0_A2 (d0.2.2.length) (p0_c2)]) 102 rfl rfl rfl (fun g1 => ?_)
 refine VO.as (VO.k3 0 1 2 (VC.seq (VC.rs (VO.y rfl (.fa rfl tst24 rfl) (VO.y rfl (.ld1 102 rfl tk3 rfl (cellsAt_one rfl rfl)) (VO.y rfl (.lss rfl rfl) (VO.mv ?_)))))))
 refine VO.dec (t := 7) rfl (fun hc3 => ?_) (fun hc3 => ?_)
 · refine VO.gN (VO.gN (VO.gN (VO.y rfl (.pT rfl rfl) (VO.mv (VO.gN (VO.gN (VO.gN (VO.y rfl (.pT rfl rfl) (VO.mv (VO.gN (VO.gN ?_)))))))))))
   refine VO.gN (VO.gN (VO.y rfl (.pT rfl rfl) (VO.k4 0 1 2 22 (VC.condT rfl (VC.rs (VO.as ?_))))))
   refine VO.kp [102, 0] [(102, mone g1 (.cells #[.int .i64 (d0.1), .int .i64 (d0.2.1), .slice p0_A2 (d0.2.2.length) (p0_c2)] 24 (0, 0))), (0, wm W)] ?_
   refine VO.k4 0 1 2 22 (VC.ret (outR ?_))
   refine ⟨_, _, res_run (rs := [.tmp 2]) rfl (.tmp rfl .nil), fun W_ hI => out_of (l := []) hI [] rfl rfl (mle_refl _) (fun hS_ => ?_)⟩
   dsimp only [packV]
   all_goals (first | rfl | (exact fin0_s19Check_ok))
 refine VO.gy rfl ⟨_, rfl, rfl⟩ (.fa rfl tst24 rfl) ?_
 refine VO.gy rfl ⟨_, rfl, rfl⟩ (.ld1 102 rfl tk3 rfl (cellsAt_one rfl rfl)) ?_
 refine VO.gy rfl ⟨_, rfl, rfl⟩ (.gtr rfl rfl) (VO.y rfl (.pF rfl rfl) (VO.mv ?_))
 refine VO.dec (t := 12) rfl (fun hc4 => ?_) (fun hc4 => ?_)
 · refine VO.gN (VO.gN (VO.gN (VO.y rfl (.pT rfl rfl) (VO.mv (VO.gN (VO.gN (VO.gN (VO.gN (VO.y rfl (.pT rfl rfl) (VO.k4 0 1 2 22 (VC.condT rfl ?_)))))))))))
   refine VC.rs (VO.as ?_)
   refine VO.kp [102, 0] [(102, mone g1 (.cells #[.int .i64 (d0.1), .int .i64 (d0.2.1), .slice p0_A2 (d0.2.2.length) (p0_c2)] 24 (0, 0))), (0, wm W)] ?_
   refine VO.k4 0 1 2 22 (VC.ret (outR ?_))
   refine ⟨_, _, res_run (rs := [.tmp 2]) rfl (.tmp rfl .nil), fun W_ hI => out_of (l := []) hI [] rfl rfl (mle_refl _) (fun hS_ => ?_)⟩
   dsimp only [packV]
   all_goals (first | rfl | (exact fin0_s19Check_ok))
 refine VO.gy rfl ⟨_, rfl, rfl⟩ (.fa rfl tst24 rfl) ?_
 refine VO.gy rfl ⟨_, rfl, rfl⟩ (.ld1 102 rfl tk3 rfl (cellsAt_one rfl rfl)) ?_
 refine VO.gy rfl ⟨_, rfl, rfl⟩ (.lss rfl rfl) (VO.y rfl (.pF rfl rfl) (VO.mv ?_))
 refine VO.dec (t := 17) rfl (fun hc5 => ?_) (fun hc5 => ?_)
 · refine VO.gN (VO.gN (VO.gN (VO.gN (VO.y rfl (.pT rfl rfl) (VO.k4 0 1 2 22 (VC.condT rfl (VC.rs (VO.as ?_))))))))
   refine VO.kp [102, 0] [(102, mone g1 (.cells #[.int .i64 (d0.1), .int .i64 (d0.2.1), .slice p0_A2 (d0.2.2.length) (p0_c2)] 24 (0, 0))), (0, wm W)] ?_
   refine VO.k4 0 1 2 22 (VC.ret (outR ?_))
   refine ⟨_, _, res_run (rs := [.tmp 2]) rfl (.tmp rfl .nil), fun W_ hI => out_of (l := []) hI [] rfl rfl (mle_refl _) (fun hS_ => ?_)⟩
   dsimp only [packV]
   all_goals (first | rfl | (exact fin0_s19Check_ok))
 refine VO.gy rfl ⟨_, rfl, rfl⟩ (.fa rfl tst24 rfl) ?_
 refine VO.gy rfl ⟨_, rfl, rfl⟩ (.ld1 102 rfl tk22 rfl (cellsAt_one rfl rfl)) ?_
 refine VO.gy rfl ⟨_, rfl, rfl⟩ (.lenS rfl tsl22) ?_
 refine VO.gy rfl ⟨_, rfl, rfl⟩ (.eql rfl rfl) (VO.y rfl (.pF rfl rfl) (VO.k4 0 1 2 22 ?_))
 refine VC.cond rfl (fun hc6 => ?_) (fun hc6 => ?_)
 · refine VC.rs (VO.as ?_)
   refine VO.kp [102, 0] [(102, mone g1 (.cells #[.int .i64 (d0.1), .int .i64 (d0.2.1), .slice p0_A2 (d0.2.2.length) (p0_c2)] 24 (0, 0))), (0, wm W)] ?_
   refine VO.k4 0 1 2 22 (VC.ret (outR ?_))
   refine ⟨_, _, res_run (rs := [.tmp 2]) rfl (.tmp rfl .nil), fun W_ hI => out_of (l := []) hI [] rfl rfl (mle_refl _) (fun hS_ => ?_)⟩
   dsimp only [packV]
   all_goals (first | rfl | (exact fin0_s19Check_ok))
 refine VC.skip (outN (VC.rs (VO.y rfl (.fa rfl tst24 rfl) (VO.y rfl (.ld1 102 rfl tk3 rfl (cellsAt_one rfl rfl)) (VO.y rfl (.fa rfl tst24 rfl) (VO.y rfl (.ld1 102 rfl tk22 rfl (cellsAt_one rfl rfl)) ?_))))))
 refine VO.callN 107 rfl fnOk62 rfl (fun W hW => c4Follows_ok W 1 bdk d0.2.1 bdk (Rd.mono p0_2 (hW.at (i := 0) rfl))) (fun v7 m7 hv7 => ?_)
 obtain ⟨s7_0, rfl, f7_0⟩ := hv7
 obtain ⟨rfl, q7_0_0, q7_0_1⟩ := open_Fault (x0 := (cFollows 1 d0.2.1 d0.2.2).1) (x1 := (cFollows 1 d0.2.1 d0.2.2).2) (f7_0.rd (mle_refl _))
 simp only [inK] at q7_0_0 q7_0_1
 refine VO.alloc 109 rfl tz75 (fun g8 => ?_)
 refine VO.store (k := 2) (c' := [Value.int .i64 ((cFollows 1 d0.2.1 d0.2.2).1), Value.int .i64 ((cFollows 1 d0.2.1 d0.2.2).2)]) 109 rfl rfl (.inl tk75) rfl rfl rfl rfl rfl ?_
 refine VO.kp [109, 102, 0] [(109, mone g8 (.cells #[.int .i64 ((cFollows 1 d0.2.1 d0.2.2).1), .int .i64 ((cFollows 1 d0.2.1 d0.2.2).2)] 75 (0, 0))), (102, mone g1 (.cells #[.int .i64 (d0.1), .int .i64 (d0.2.1), .slice p0_A2 (d0.2.2.length) (p0_c2)] 24 (0, 0))), (0, wm W)] ?_
 refine VO.k5 0 1 2 3 22 (VC.seq (VC.rs (VO.y rfl (.ldA 109 rfl tk75 rfl (cellsAt_one rfl rfl)) ?_)))
 refine VO.y rfl (.bst (cs := [.int .i64 (0), .int .i64 (0)]) rfl tst75 tz75 rfl) ?_
 refine VO.y rfl (.stneq (p := ((cFollows 1 d0.2.1 d0.2.2).1) = 0 ∧ ((cFollows 1 d0.2.1 d0.2.2).2) = 0) rfl rfl (teq75 ((cFollows 1 d0.2.1 d0.2.2).1) ((cFollows 1 d0.2.1 d0.2.2).2)) (teq75 0 0) (by simp [ceq, ba_toList])) ?_
 refine VO.k6 0 1 2 3 22 30 ?_
 refine VC.cond rfl (fun hc10 => ?_) (fun hc10 => ?_)
 · refine VC.rs (VO.y rfl (.fa rfl tst75 rfl) (VO.y rfl (.ld1 109 rfl tk28 rfl (cellsAt_one rfl rfl)) (VO.as (VO.k6 0 1 2 3 22 30 (VC.ret (outR ?_))))))
   refine ⟨_, _, res_run (rs := [.tmp 2]) rfl (.tmp rfl .nil), fun W_ hI => out_of (l := []) hI [] rfl rfl (mle_refl _) (fun hS_ => ?_)⟩
   dsimp only [packV]
   all_goals (first | rfl | (exact fin0_s19Check_ok))
 refine VC.skip (outN (VC.seq (VC.seq ?_)))
 refine VC.regD _ 11 [(0, true), (1, true), (2, true), (3, true), (4, true), (5, true), (6, true), (7, true), (8, true), (9, true), (10, true)] follows (by kernel_rfl) (fun _ h => h.sub [109, 102, 0]) ?_
 refine VD.y rfl rfl (.inl rfl) (.fa rfl tst24 rfl) (VD.y rfl rfl (.inl rfl) (.ld1 102 rfl tk22 rfl (cellsAt_one rfl rfl)) (VD.y rfl rfl (.inl rfl) (.fa rfl tst24 rfl) (VD.y rfl rfl (.inl rfl) (.ld1 102 rfl tk22 rfl (cellsAt_one rfl rfl)) ?_)))
 refine VD.y rfl rfl (.inl rfl) (.lenS rfl tsl22) ?_
 refine VD.y rfl rfl (.inl rfl) (.sub rfl rfl rfl ⟨bd, bd⟩) ?_
 obtain ⟨x11, hx11⟩ : ∃ z_, (d0.2.2)[(((d0.2.2.length : Nat) : Int) - 1).toNat]? = some z_ := ⟨_, List.getElem?_eq_getElem bd⟩
 obtain ⟨gg11, oo11, ec11, ea11, hce11, hre11⟩ := p0_2.elem hx11
 cases ea11
 obtain ⟨q11_A2, q11_c2, rfl, q11_0, q11_1, q11_2⟩ := open_Commit (x0 := x11.1) (x1 := x11.2.1) (x2 := x11.2.2) hre11
 simp only [inK] at q11_0 q11_1
 have q11_r2 := Rd.room q11_2
 refine VD.y rfl rfl (.inl rfl) (.ixI ((((d0.2.2.length : Nat) : Int) - 1).toNat) rfl rfl tsl22 bd bd) ?_
 refine VD.y rfl rfl (.inl rfl) (.fa rfl tst32 rfl) ?_
 refine VD.y rfl rfl (.inl rfl) (.ld1 0 rfl tk3 rfl (hce11.at1 (j := 0) rfl)) ?_
 refine VD.y rfl rfl (.inl rfl) (.fa rfl tst24 rfl) (VD.y rfl rfl (.inl rfl) (.ld1 102 rfl tk3 rfl (cellsAt_one rfl rfl)) ?_)
 refine VD.nil rfl ?_ rfl
 refine VO.y rfl (.geq rfl rfl) (VO.k7 0 1 2 3 22 30 44 (outN ?_))
 refine VC.cond rfl (fun hc12 => ?_) (fun hc12 => ?_)
 · refine VC.rs (VO.as ?_)
   refine VO.kp [109, 102, 0] [(109, mone g8 (.cells #[.int .i64 ((cFollows 1 d0.2.1 d0.2.2).1), .int .i64 ((cFollows 1 d0.2.1 d0.2.2).2)] 75 (0, 0))), (102, mone g1 (.cells #[.int .i64 (d0.1), .int .i64 (d0.2.1), .slice (some ⟨gg11, oo11, none⟩) (d0.2.2.length) (p0_c2)] 24 (0, 0))), (0, wm W)] ?_
   refine VO.k7 0 1 2 3 22 30 44 (VC.ret (outR ?_))
   refine ⟨_, _, res_run (rs := [.tmp 2]) rfl (.tmp rfl .nil), fun W_ hI => out_of (l := []) hI [] rfl rfl (mle_refl _) (fun hS_ => ?_)⟩
   dsimp only [packV]
   all_goals (first | rfl | (exact fin0_s19Check_ok))
 · refine VC.skip (outN (VC.rs (VO.as ?_)))
   refine VO.kp [109, 102, 0] [(109, mone g8 (.cells #[.int .i64 ((cFollows 1 d0.2.1 d0.2.2).1), .int .i64 ((cFollows 1 d0.2.1 d0.2.2).2)] 75 (0, 0))), (102, mone g1 (.cells #[.int .i64 (d0.1), .int .i64 (d0.2.1), .slice (some ⟨gg11, oo11, none⟩) (d0.2.2.length) (p0_c2)] 24 (0, 0))), (0, wm W)] ?_
   refine VO.k7 0 1 2 3 22 30 44 (VC.ret ?_)
   refine ⟨_, _, res_run (rs := [.tmp 2]) rfl (.tmp rfl .nil), fun W_ hI => out_of (l := []) hI [] rfl rfl (mle_refl _) (fun hS_ => ?_)⟩
   dsimp only [packV]
   all_goals (first | rfl | (exact fin0_s19Check_ok))
theorem fin0_sectEncode_ok {P : Prop} (h : P := by first | omega | (simp only [List.length_append, List.length_nil, List.length_cons, List.length_take, List.length_drop] at *; omega) | (have h_ := sect_ok (Decidable.not_not.1 ‹¬ ¬ sectCheck d0 = 0›); have h2_ := sect_fork (Decidable.not_not.1 ‹¬ ¬ sectCheck d0 = 0›); omega) | (have h_ := sect_ok (Decidable.not_not.1 ‹¬ ¬ sectCheck d0 = 0›); have h2_ := sect_fork (Decidable.not_not.1 ‹¬ ¬ sectCheck d0 = 0›); simp only [List.length_append, List.length_nil, List.length_cons, List.length_take, List.length_drop] at *; omega)) : P := h
theorem sectEncode_ok (W : World) {v0 : List Value} {d0 : DSection} (h0 : Rd TSection (wm W) v0 d0) : CallR Try.prog 16 [.agg v0.toArray] W (mnil) (fun v m' => ∃ (s0 : Value), v = .tuple #[s0, .int .i64 ((sectEncode d0).2)] ∧ Ow (.sl .byte) m' [s0] ((sectEncode d0).1)) := by
 obtain ⟨p0_A2, p0_c2, rfl, p0_0, p0_1, p0_2⟩ := open_Section (x0 := d0.1) (x1 := d0.2.1) (x2 := d0.2.2) h0
 simp only [inK] at p0_0 p0_1
 have p0_r2 := Rd.room p0_2
 refine CallR.ofA (n := 64) Try.func16 rfl rfl rfl ?_
 refine VC.rs ?_
 refine VO.box (cs := [.int .i64 (d0.1), .int .i64 (d0.2.1), .slice p0_A2 (d0.2.2.length) (p0_c2)]) 102 rfl rfl rfl (fun g1 => ?_)
 refine VO.as (VO.as (VO.k4 0 1 2 3 (VC.seq (VC.rs (VO.y rfl (.ldA 102 rfl tk24 rfl (cellsAt_one rfl rfl)) ?_)))))
 refine VO.callN 103 rfl fnOk9 rfl (fun W hW => sectCheck_ok W (Rd.mono h0 (hW.at (i := 0) rfl))) (fun v3 m3 hv3 => ?_)
 subst hv3
 have hfa4 := sectCheck_range d0
 refine VO.as (VO.k5 0 1 2 3 4 (VC.rs (VO.mv (VO.y rfl (.neq rfl rfl) ?_))))
 refine VO.kp [102, 0] [(102, mone g1 (.cells #[.int .i64 (d0.1), .int .i64 (d0.2.1), .slice p0_A2 (d0.2.2.length) (p0_c2)] 24 (0, 0))), (0, wm W)] ?_
 refine VO.k6 0 1 2 3 4 17 ?_
 refine VC.cond rfl (fun hc5 => ?_) (fun hc5 => ?_)
 · refine VC.rs (VO.mv (VO.as (VO.as (VO.k6 0 1 2 3 4 17 (VC.ret (outR ?_))))))
   refine ⟨_, _, res_run (rs := [.tmp 2, .tmp 3]) rfl (.tmp rfl (.tmp rfl .nil)), fun W_ hI => out_of (l := []) hI [] rfl rfl (mle_refl _) (fun hS_ => ?_)⟩
   dsimp only [packV]
   have he0 : ((sectEncode d0).1 : Ty.Den (.sl .byte)) = [] := by first | rfl | (first | (rw [sectEncode_bad (by assumption)] <;> rfl) | (rw [sectEncode_good (by assumption)] <;> first | rfl | (dsimp only; rw [← hb, List.drop_of_length_le (by omega)]; simp [cFrames]; done) | (dsimp only; rw [he]; done)))
   refine ⟨Value.slice none (0) (0), ?_, ?_⟩
   rotate_left
   · rw [he0]; exact (Ow.nil _ _)
   all_goals (first | rfl | (first | (rw [sectEncode_bad (by assumption)] <;> rfl) | (rw [sectEncode_good (by assumption)] <;> first | rfl | (dsimp only; rw [← hb, List.drop_of_length_le (by omega)]; simp [cFrames]; done) | (dsimp only; rw [he]; done))))
 refine VC.skip (outN (VC.rs (VO.as (VO.k7 0 1 2 3 4 5 17 (VC.seq (VC.rs (VO.y rfl (.fa rfl tst24 rfl) (VO.y rfl (.ld1 102 rfl tk3 rfl (cellsAt_one rfl rfl)) (VO.y rfl (.fa rfl tst24 rfl) (VO.y rfl (.ld1 102 rfl tk3 rfl (cellsAt_one rfl rfl)) (VO.y rfl (.fa rfl tst24 rfl) ?_)))))))))))
 refine VO.y rfl (.ld1 102 rfl tk22 rfl (cellsAt_one rfl rfl)) ?_
 refine VO.y rfl (.lenS rfl tsl22) ?_
 refine VO.y rfl (.bar (cs := [Value.int .i64 (d0.1), Value.int .i64 (d0.2.1), Value.int .i64 (((d0.2.2.length : Nat) : Int))]) rfl tar80 tz80 rfl) ?_
 refine VO.mv (VO.k9 0 1 2 3 4 5 17 26 27 (VC.block ?_))
 refine VC.rounds 5 (VRounds.step ?_)
 refine VC.rs (VO.y rfl (.lss rfl rfl) ?_)
 refine VO.kp [102, 0] [(102, mone g1 (.cells #[.int .i64 (d0.1), .int .i64 (d0.2.1), .slice p0_A2 (d0.2.2.length) (p0_c2)] 24 (0, 0))), (0, wm W)] ?_
 refine VO.k10 0 1 2 3 4 5 17 26 27 28 (VC.seq ?_)
 refine VC.condKT rfl (decide_eq_true (by decide)) ?_
 refine VC.skip (outN (VC.seq (VC.block (VC.rs ?_))))
 refine VO.y rfl (.ix1V rfl rfl tia80 tk3 rfl rfl rfl) ?_
 refine VO.as (VO.k11 0 1 2 3 4 5 7 17 26 27 28 ?_)
 refine VC.reg ?_
 refine VO.mv (VO.mv ?_)
 refine VO.y rfl (.cvI (c := ((d0.1).toNat : Int)) rfl ⟨_, Try.underlying3⟩ Try.underlying82 (by rw [IntWalk.u64_in _ (by exact fin0_sectEncode_ok)]; first | omega | (exact fin0_sectEncode_ok))) ?_
 refine VO.callN 106 rfl fnOk54 rfl (fun W hW => vAppend_ok W (Rd.nil _ _ none 0 (Nat.zero_le _)) ((d0.1).toNat) (by exact fin0_sectEncode_ok) (by exact fin0_sectEncode_ok)) (fun v6 m6 hv6 => ?_)
 obtain ⟨s6_0, rfl, f6_0⟩ := hv6
 have hfa7 := venc_len (x := ((d0.1).toNat)) (by first | omega | exact or64 (by assumption) _)
 simp only [List.nil_append] at f6_0
 obtain ⟨A6_0, c6_0, eq6_0, l6_0, k6_0⟩ := f6_0.slice
 subst eq6_0
 simp only [maxLen] at k6_0
 refine VO.as (VO.k11 0 1 2 3 4 5 7 17 26 27 28 (outBN (outN ?_)))
 refine VC.reg ?_
 refine VO.y rfl (.add (c := ((1 : Nat) : Int)) rfl rfl (by omega) ⟨by exact fin0_sectEncode_ok, by exact fin0_sectEncode_ok⟩) ?_
 refine VO.mv ?_
 refine VO.kp [106, 102, 0] [(106, m6), (102, mone g1 (.cells #[.int .i64 (d0.1), .int .i64 (d0.2.1), .slice p0_A2 (d0.2.2.length) (p0_c2)] 24 (0, 0))), (0, wm W)] ?_
 refine VO.k11 0 1 2 3 4 5 7 17 26 27 28 ?_
 refine outN (VRounds.step ?_)
 refine VC.rs (VO.y rfl (.lss rfl rfl) (VO.k11 0 1 2 3 4 5 7 17 26 27 28 (VC.seq ?_)))
 refine VC.condKT rfl (decide_eq_true (by decide)) ?_
 refine VC.skip (outN (VC.seq (VC.block (VC.rs ?_))))
 refine VO.y rfl (.ix1V rfl rfl tia80 tk3 rfl rfl rfl) ?_
 refine VO.as (VO.k11 0 1 2 3 4 5 7 17 26 27 28 ?_)
 refine VC.reg ?_
 refine VO.mv (VO.mv ?_)
 refine VO.y rfl (.cvI (c := ((d0.2.1).toNat : Int)) rfl ⟨_, Try.underlying3⟩ Try.underlying82 (by rw [IntWalk.u64_in _ (by exact fin0_sectEncode_ok)]; first | omega | (exact fin0_sectEncode_ok))) ?_
 refine VO.callN 108 rfl fnOk54 rfl (fun W hW => vAppend_ok W (OwnL.rd (Ow.ownl f6_0 rfl mnil) (hW.at (i := 106) rfl) (mle_nil _)) ((d0.2.1).toNat) (by exact fin0_sectEncode_ok) (by exact fin0_sectEncode_ok)) (fun v8 m8 hv8 => ?_)
 obtain ⟨s8_0, rfl, f8_0⟩ := hv8
 have hfa9 := venc_len (x := ((d0.2.1).toNat)) (by first | omega | exact or64 (by assumption) _)
 obtain ⟨A8_0, c8_0, eq8_0, l8_0, k8_0⟩ := f8_0.slice
 subst eq8_0
 simp only [maxLen] at k8_0
 refine VO.as ?_
 refine VO.kp [108, 102, 0] [(108, m8), (102, mone g1 (.cells #[.int .i64 (d0.1), .int .i64 (d0.2.1), .slice p0_A2 (d0.2.2.length) (p0_c2)] 24 (0, 0))), (0, wm W)] ?_
 refine VO.k11 0 1 2 3 4 5 7 17 26 27 28 (outBN (outN ?_))
 refine VC.reg ?_
 refine VO.y rfl (.add (c := ((2 : Nat) : Int)) rfl rfl (by omega) ⟨by exact fin0_sectEncode_ok, by exact fin0_sectEncode_ok⟩) ?_
 refine VO.mv (VO.k11 0 1 2 3 4 5 7 17 26 27 28 ?_)
 refine outN (VRounds.step ?_)
 refine VC.rs (VO.y rfl (.lss rfl rfl) (VO.k11 0 1 2 3 4 5 7 17 26 27 28 (VC.seq ?_)))
 refine VC.condKT rfl (decide_eq_true (by decide)) ?_
 refine VC.skip (outN (VC.seq (VC.block (VC.rs ?_))))
 refine VO.y rfl (.ix1V rfl rfl tia80 tk3 rfl rfl rfl) ?_
 refine VO.as ?_
 refine VO.kp [108, 102, 0] [(108, m8), (102, mone g1 (.cells #[.int .i64 (d0.1), .int .i64 (d0.2.1), .slice p0_A2 (d0.2.2.length) (p0_c2)] 24 (0, 0))), (0, wm W)] ?_
 refine VO.k11 0 1 2 3 4 5 7 17 26 27 28 ?_
 refine VC.reg ?_
 refine VO.mv (VO.mv ?_)
 refine VO.y rfl (.cvI rfl ⟨_, Try.underlying3⟩ Try.underlying82 (IntWalk.u64_in _ (by exact fin0_sectEncode_ok))) ?_
 refine VO.callN 110 rfl fnOk54 rfl (fun W hW => vAppend_ok W (OwnL.rd (Ow.ownl f8_0 rfl mnil) (hW.at (i := 108) rfl) (mle_nil _)) d0.2.2.length (by exact fin0_sectEncode_ok) (by exact fin0_sectEncode_ok)) (fun v10 m10 hv10 => ?_)
 obtain ⟨s10_0, rfl, f10_0⟩ := hv10
 have hfa11 := venc_len (x := d0.2.2.length) (by first | omega | exact or64 (by assumption) _)
 obtain ⟨A10_0, c10_0, eq10_0, l10_0, k10_0⟩ := f10_0.slice
 subst eq10_0
 simp only [maxLen] at k10_0
 refine VO.as (VO.k11 0 1 2 3 4 5 7 17 26 27 28 (outBN (outN ?_)))
 refine VC.reg ?_
 refine VO.y rfl (.add (c := ((3 : Nat) : Int)) rfl rfl (by omega) ⟨by exact fin0_sectEncode_ok, by exact fin0_sectEncode_ok⟩) ?_
 refine VO.mv (VO.k11 0 1 2 3 4 5 7 17 26 27 28 ?_)
 refine outN (VRounds.step ?_)
 refine VC.rs (VO.y rfl (.lss rfl rfl) ?_)
 refine VO.kp [110, 102, 0] [(110, m10), (102, mone g1 (.cells #[.int .i64 (d0.1), .int .i64 (d0.2.1), .slice p0_A2 (d0.2.2.length) (p0_c2)] 24 (0, 0))), (0, wm W)] ?_
 refine VO.k11 0 1 2 3 4 5 7 17 26 27 28 (VC.seq ?_)
 refine VC.condKF rfl (decide_eq_false (by decide)) ?_
 refine VC.exit (outE (outE (outBB (outN (VC.rs (VO.mv ?_))))))
 refine VO.callN 112 rfl fnOk55 rfl (fun W hW => fAppend_ok W (Rd.nil _ _ none 0 (Nat.zero_le _)) (OwnL.rd (Ow.ownl f10_0 rfl mnil) (hW.at (i := 110) rfl) (mle_nil _)) (by exact fin0_sectEncode_ok)) (fun v12 m12 hv12 => ?_)
 obtain ⟨s12_0, rfl, f12_0⟩ := hv12
 have hfa13 := fAppend_len [] (((venc ((d0.1).toNat)) ++ venc ((d0.2.1).toNat)) ++ venc d0.2.2.length)
 have hfa14 := fAppend_range [] (((venc ((d0.1).toNat)) ++ venc ((d0.2.1).toNat)) ++ venc d0.2.2.length)
 obtain ⟨A12_0, c12_0, eq12_0, l12_0, k12_0⟩ := f12_0.slice
 subst eq12_0
 simp only [maxLen] at k12_0
 refine VO.mv (VO.y rfl (.ext rfl rfl) (VO.y rfl (.ext rfl rfl) (VO.as (VO.as (VO.k13 0 1 2 3 4 5 7 8 9 17 26 27 28 (VC.seq (VC.rs (VO.y rfl (.fa rfl tst24 rfl) (VO.y rfl (.ld1 102 rfl tk22 rfl (cellsAt_one rfl rfl)) ?_)))))))))
 refine VO.y rfl (.lenS rfl tsl22) ?_
 refine VO.mv (VO.k16 0 1 2 3 4 5 7 8 9 17 26 27 28 41 42 43 (VC.block ?_))
 refine VC.loop (G := Nat × (List UInt8) × (Option Addr) × Nat × Mem × Int) (fun g => [(8, .slice (g.2.2.1) ((g.2.1).length) ((g.2.2.2.1))), (9, .int .i64 ((g.2.2.2.2.2))), (43, .int .i64 ((((g.1) : Nat) : Int))), (0, .agg [.int .i64 (d0.1), .int .i64 (d0.2.1), .slice p0_A2 (d0.2.2.length) (p0_c2)].toArray), (1, .pointer (some ⟨g1, 0, none⟩)), (4, .int .i64 (sectCheck d0)), (5, .slice A10_0 ((((venc ((d0.1).toNat)) ++ venc ((d0.2.1).toNat)) ++ venc d0.2.2.length).length) (c10_0)), (7, .int .i64 (((d0.2.2.length : Nat) : Int))), (17, .bool (decide (¬ (sectCheck d0) = 0))), (26, .agg [.int .i64 (d0.1), .int .i64 (d0.2.1), .int .i64 (((d0.2.2.length : Nat) : Int))].toArray), (27, .int .i64 (((3 : Nat) : Int))), (28, .bool (decide (((3 : Nat) : Int) < 3))), (41, .slice p0_A2 (d0.2.2.length) (p0_c2)), (42, .int .i64 (((d0.2.2.length : Nat) : Int)))]) (fun g => [(112, (g.2.2.2.2.1)), (110, m10), (102, mone g1 (.cells #[.int .i64 (d0.1), .int .i64 (d0.2.1), .slice p0_A2 (d0.2.2.length) (p0_c2)] 24 (0, 0))), (0, wm W)]) (fun g => ((g.1) ≤ d0.2.2.length) ∧ ((g.2.2.2.2.2) = 0) ∧ ((g.2.1) ++ cFrames (d0.2.2.drop (g.1)) = sectEnc d0) ∧ ((g.2.1).length ≤ 40 + 710 * (g.1)) ∧ (OwnL .byte (g.2.2.2.2.1) mnil (.slice (g.2.2.1) (g.2.1).length (g.2.2.2.1)) (g.2.1))) (fun g => d0.2.2.length - (g.1)) (0, (fAppend [] (((venc ((d0.1).toNat)) ++ venc ((d0.2.1).toNat)) ++ venc d0.2.2.length)).1, A12_0, c12_0, m12, (fAppend [] (((venc ((d0.1).toNat)) ++ venc ((d0.2.1).toNat)) ++ venc d0.2.2.length)).2) (⟨by omega, by exact senc_head0 (Decidable.not_not.1 ‹¬ ¬ sectCheck d0 = 0›), by exact senc_head1 (Decidable.not_not.1 ‹¬ ¬ sectCheck d0 = 0›), by exact senc_head2 (Decidable.not_not.1 ‹¬ ¬ sectCheck d0 = 0›), (Ow.ownl f12_0 rfl mnil)⟩) ⟨⟨rfl, rfl, rfl, rfl, rfl, rfl, rfl, rfl, rfl, rfl, rfl, rfl, rfl, rfl, trivial⟩, fun _ h => h.sub [112, 110, 102, 0]⟩ ?_
 rintro ⟨k, b, b_A, b_c, b_m, e⟩ ⟨hk, he, hb, hl, h_b⟩
 replace hk : k ≤ d0.2.2.length := hk
 replace he : e = 0 := he
 replace hb : b ++ cFrames (d0.2.2.drop k) = sectEnc d0 := hb
 replace hl : b.length ≤ 40 + 710 * k := hl
 replace h_b : OwnL .byte b_m mnil (.slice b_A b.length b_c) b := h_b
 show VC _ _ _ _ _ [(8, .slice b_A (b.length) (b_c)), (9, .int .i64 (e)), (43, .int .i64 (((k : Nat) : Int))), (0, .agg [.int .i64 (d0.1), .int .i64 (d0.2.1), .slice p0_A2 (d0.2.2.length) (p0_c2)].toArray), (1, .pointer (some ⟨g1, 0, none⟩)), (4, .int .i64 (sectCheck d0)), (5, .slice A10_0 ((((venc ((d0.1).toNat)) ++ venc ((d0.2.1).toNat)) ++ venc d0.2.2.length).length) (c10_0)), (7, .int .i64 (((d0.2.2.length : Nat) : Int))), (17, .bool (decide (¬ (sectCheck d0) = 0))), (26, .agg [.int .i64 (d0.1), .int .i64 (d0.2.1), .int .i64 (((d0.2.2.length : Nat) : Int))].toArray), (27, .int .i64 (((3 : Nat) : Int))), (28, .bool (decide (((3 : Nat) : Int) < 3))), (41, .slice p0_A2 (d0.2.2.length) (p0_c2)), (42, .int .i64 (((d0.2.2.length : Nat) : Int)))] [(112, b_m), (110, m10), (102, mone g1 (.cells #[.int .i64 (d0.1), .int .i64 (d0.2.1), .slice p0_A2 (d0.2.2.length) (p0_c2)] 24 (0, 0))), (0, wm W)]
 have l_b : b.length ≤ b_c := by obtain ⟨_, _, he, hl, _⟩ := h_b.slice; simp only [Value.slice.injEq] at he; omega
 have k_b : b_c ≤ 9223372036854775807 := by obtain ⟨_, _, he, _, hl⟩ := h_b.slice; simp only [Value.slice.injEq, maxLen] at he hl; omega
 refine VC.rs (VO.y rfl (.lss rfl rfl) ?_)
 refine VO.kp [112, 110, 102, 0] [(112, b_m), (110, m10), (102, mone g1 (.cells #[.int .i64 (d0.1), .int .i64 (d0.2.1), .slice p0_A2 (d0.2.2.length) (p0_c2)] 24 (0, 0))), (0, wm W)] ?_
 refine VO.k15 0 1 4 5 7 8 9 17 26 27 28 41 42 43 44 (VC.seq ?_)
 refine VC.cond rfl (fun hc15 => ?_) (fun hc15 => ?_)
 refine VC.skip (outN (VC.seq (VC.block (VC.rs ?_))))
 obtain ⟨x16, hx16⟩ : ∃ z_, (d0.2.2)[k]? = some z_ := ⟨_, List.getElem?_eq_getElem (by exact fin0_sectEncode_ok)⟩
 obtain ⟨gg16, oo16, ec16, ea16, hce16, hre16⟩ := p0_2.elem hx16
 cases ea16
 obtain ⟨q16_A2, q16_c2, rfl, q16_0, q16_1, q16_2⟩ := open_Commit (x0 := x16.1) (x1 := x16.2.1) (x2 := x16.2.2) hre16
 simp only [inK] at q16_0 q16_1
 have q16_r2 := Rd.room q16_2
 refine VO.y rfl (.ixI k rfl rfl tsl22 rfl (by exact fin0_sectEncode_ok)) ?_
 refine VO.y rfl (.ldA 0 rfl tk32 rfl hce16) ?_
 refine VO.alloc 118 rfl tz32 (fun g17 => ?_)
 refine VO.store (k := 3) (c' := [Value.int .i64 (x16.1), Value.int .i64 (x16.2.1), Value.slice q16_A2 (x16.2.2.length) (q16_c2)]) 118 rfl rfl (.inl tk32) rfl rfl rfl rfl rfl ?_
 refine VO.k16 0 1 4 5 7 8 9 11 17 26 27 28 41 42 43 44 (VC.seq (VC.rs (VO.mv (VO.y rfl (.neq rfl rfl) (VO.k17 0 1 4 5 7 8 9 11 17 26 27 28 41 42 43 44 48 ?_)))))
 refine VC.cond rfl (fun hc19 => ?_) (fun hc19 => ?_)
 exact absurd he hc19
 refine VC.skip (outN (VC.rs (VO.y rfl (.ldA 118 rfl tk32 rfl (cellsAt_one rfl rfl)) ?_)))
 refine VO.callN 120 rfl fnOk56 rfl (fun W hW => cEncode_ok_ W (Rd.mono hre16 (hW.at (i := 0) rfl))) (fun v20 m20 hv20 => ?_)
 obtain ⟨s20_0, rfl, f20_0⟩ := hv20
 have hfa21 := cEncode_len x16
 obtain ⟨A20_0, c20_0, eq20_0, l20_0, k20_0⟩ := f20_0.slice
 subst eq20_0
 simp only [maxLen] at k20_0
 refine VO.mv (VO.y rfl (.ext rfl rfl) (VO.y rfl (.ext rfl rfl) (VO.as (VO.as ?_))))
 refine VO.kp [120, 118, 112, 110, 102, 0] [(120, m20), (118, mone g17 (.cells #[.int .i64 (x16.1), .int .i64 (x16.2.1), .slice q16_A2 (x16.2.2.length) (q16_c2)] 32 (0, 0))), (112, b_m), (110, m10), (102, mone g1 (.cells #[.int .i64 (d0.1), .int .i64 (d0.2.1), .slice (some ⟨gg16, oo16, none⟩) (d0.2.2.length) (p0_c2)] 24 (0, 0))), (0, wm W)] ?_
 refine VO.k18 0 1 4 5 7 8 9 11 12 17 26 27 28 41 42 43 44 48 ?_
 refine VC.reg ?_
 refine VO.mv (VO.mv ?_)
 refine VO.callN 122 rfl fnOk55 rfl (fun W hW => fAppend_ok W (OwnL.rd h_b (hW.at (i := 112) rfl) (mle_nil _)) (OwnL.rd (Ow.ownl f20_0 rfl mnil) (hW.at (i := 120) rfl) (mle_nil _)) (by exact fin0_sectEncode_ok)) (fun v22 m22 hv22 => ?_)
 obtain ⟨s22_0, rfl, f22_0⟩ := hv22
 have hfa23 := fAppend_len b ((cEncode x16).1)
 have hfa24 := fAppend_range b ((cEncode x16).1)
 obtain ⟨A22_0, c22_0, eq22_0, l22_0, k22_0⟩ := f22_0.slice
 subst eq22_0
 simp only [maxLen] at k22_0
 refine VO.mv (VO.y rfl (.ext rfl rfl) (VO.y rfl (.ext rfl rfl) (VO.as (VO.as (VO.k18 0 1 4 5 7 8 9 11 12 17 26 27 28 41 42 43 44 48 (outBN (outN ?_)))))))
 refine VC.reg ?_
 refine VO.y rfl (.add (c := ((k + 1 : Nat) : Int)) rfl rfl (by omega) ⟨by exact fin0_sectEncode_ok, by exact fin0_sectEncode_ok⟩) ?_
 refine VO.mv (VO.k18 0 1 4 5 7 8 9 11 12 17 26 27 28 41 42 43 44 48 ?_)
 exact outN ⟨⟨k + 1, (fAppend b ((cEncode x16).1)).1, A22_0, c22_0, m22, (fAppend b ((cEncode x16).1)).2⟩, ⟨by omega, by exact senc_step0 (Decidable.not_not.1 ‹¬ ¬ sectCheck d0 = 0›) ‹d0.2.2[k]? = some _›, by exact senc_step1 (Decidable.not_not.1 ‹¬ ¬ sectCheck d0 = 0›) hb ‹d0.2.2[k]? = some _›, by exact senc_step2 (Decidable.not_not.1 ‹¬ ¬ sectCheck d0 = 0›) hl ‹d0.2.2[k]? = some _›, (Ow.ownl f22_0 rfl mnil)⟩, by exact fin0_sectEncode_ok, ⟨⟨rfl, rfl, rfl, rfl, rfl, rfl, rfl, rfl, rfl, rfl, rfl, rfl, rfl, rfl, trivial⟩, fun _ h => Inv.sub (Inv.num h 122 112 rfl) [112, 110, 102, 0]⟩⟩
 · refine VC.exit (outE (outE (outBB (outN (VC.rs (VO.mv (VO.mv (VO.as (VO.as (VO.k17 0 1 2 3 4 5 7 8 9 17 26 27 28 41 42 43 44 (VC.ret ?_)))))))))))
   refine ⟨_, _, res_run (rs := [.tmp 2, .tmp 3]) rfl (.tmp rfl (.tmp rfl .nil)), fun W_ hI => out_of (l := [b_m]) hI [112] rfl rfl (mle_refl _) (fun hS_ => ?_)⟩
   dsimp only [packV]
   have he0 : ((sectEncode d0).1 : Ty.Den (.sl .byte)) = b := by first | rfl | (first | (rw [sectEncode_bad (by assumption)] <;> rfl) | (rw [sectEncode_good (by assumption)] <;> first | rfl | (dsimp only; rw [← hb, List.drop_of_length_le (by omega)]; simp [cFrames]; done) | (dsimp only; rw [he]; done)))
   refine ⟨Value.slice b_A (b.length) (b_c), ?_, ?_⟩
   rotate_left
   · rw [he0]; exact (Ow.up (OwnL.ow h_b rfl) (hS_.1 _ (.head _)))
   all_goals (first | rfl | (first | (rw [sectEncode_bad (by assumption)] <;> rfl) | (rw [sectEncode_good (by assumption)] <;> first | rfl | (dsimp only; rw [← hb, List.drop_of_length_le (by omega)]; simp [cFrames]; done) | (dsimp only; rw [he]; done))))
theorem fin0_s19Encode_ok {P : Prop} (h : P := by first | omega | (simp only [List.length_append, List.length_nil, List.length_cons, List.length_take, List.length_drop] at *; omega) | (have h_ := sect_ok (Decidable.not_not.1 ‹¬ ¬ sectCheck d0 = 0›); have h2_ := sect_fork (Decidable.not_not.1 ‹¬ ¬ sectCheck d0 = 0›); omega) | (have h_ := sect_ok (Decidable.not_not.1 ‹¬ ¬ sectCheck d0 = 0›); have h2_ := sect_fork (Decidable.not_not.1 ‹¬ ¬ sectCheck d0 = 0›); simp only [List.length_append, List.length_nil, List.length_cons, List.length_take, List.length_drop] at *; omega)) : P := h
theorem s19Encode_ok (W : World) {v0 : List Value} {d0 : DSection} (h0 : Rd TSection (wm W) v0 d0) : CallR Try.prog 17 [.agg v0.toArray] W (mnil) (fun v m' => ∃ (s0 : Value), v = .tuple #[s0, .int .i64 ((sectEncode d0).2)] ∧ Ow (.sl .byte) m' [s0] ((sectEncode d0).1)) := by
 obtain ⟨p0_A2, p0_c2, rfl, p0_0, p0_1, p0_2⟩ := open_Section (x0 := d0.1) (x1 := d0.2.1) (x2 := d0.2.2) h0
 simp only [inK] at p0_0 p0_1
 have p0_r2 := Rd.room p0_2
 refine CallR.ofA (n := 47) Try.func17 rfl rfl rfl ?_
 refine VC.rs ?_
 refine VO.box (cs := [.int .i64 (d0.1), .int .i64 (d0.2.1), .slice p0_A2 (d0.2.2.length) (p0_c2)]) 102 rfl rfl rfl (fun g1 => ?_)
 refine VO.as (VO.as (VO.k4 0 1 2 3 (VC.rs (VO.y rfl (.ldA 102 rfl tk24 rfl (cellsAt_one rfl rfl)) ?_))))
 refine VO.callN 103 rfl fnOk20 rfl (fun W hW => s19Check_ok W (Rd.mono h0 (hW.at (i := 0) rfl))) (fun v3 m3 hv3 => ?_)
 subst hv3
 have hfa4 := sectCheck_range d0
 refine VO.as (VO.k5 0 1 2 3 4 (VC.seq (VC.rs (VO.mv (VO.y rfl (.neq rfl rfl) ?_)))))
 refine VO.kp [102, 0] [(102, mone g1 (.cells #[.int .i64 (d0.1), .int .i64 (d0.2.1), .slice p0_A2 (d0.2.2.length) (p0_c2)] 24 (0, 0))), (0, wm W)] ?_
 refine VO.k6 0 1 2 3 4 12 ?_
 refine VC.cond rfl (fun hc5 => ?_) (fun hc5 => ?_)
 · refine VC.rs (VO.mv (VO.as (VO.as (VO.k6 0 1 2 3 4 12 (VC.ret (outR ?_))))))
   refine ⟨_, _, res_run (rs := [.tmp 2, .tmp 3]) rfl (.tmp rfl (.tmp rfl .nil)), fun W_ hI => out_of (l := []) hI [] rfl rfl (mle_refl _) (fun hS_ => ?_)⟩
   dsimp only [packV]
   have he0 : ((sectEncode d0).1 : Ty.Den (.sl .byte)) = [] := by first | rfl | (first | (rw [sectEncode_bad (by assumption)] <;> rfl) | (rw [sectEncode_good (by assumption)] <;> first | rfl | (dsimp only; rw [← hb, List.drop_of_length_le (by omega)]; simp [cFrames]; done) | (dsimp only; rw [he]; done)))
   refine ⟨Value.slice none (0) (0), ?_, ?_⟩
   rotate_left
   · rw [he0]; exact (Ow.nil _ _)
   all_goals (first | rfl | (first | (rw [sectEncode_bad (by assumption)] <;> rfl) | (rw [sectEncode_good (by assumption)] <;> first | rfl | (dsimp only; rw [← hb, List.drop_of_length_le (by omega)]; simp [cFrames]; done) | (dsimp only; rw [he]; done))))
 refine VC.skip (outN (VC.rs (VO.y rfl (.fa rfl tst24 rfl) (VO.y rfl (.ld1 102 rfl tk3 rfl (cellsAt_one rfl rfl)) ?_))))
 refine VO.callN 106 rfl fnOk57 rfl (fun W hW => rPut_ok W (Rd.nil _ _ none 0 (Nat.zero_le _)) d0.1 (by simp only [inK]; (exact fin0_s19Encode_ok)) (by exact fin0_s19Encode_ok) (by exact fin0_s19Encode_ok)) (fun v6 m6 hv6 => ?_)
 obtain ⟨s6_0, rfl, f6_0⟩ := hv6
 have hfa7 := venc_len (x := d0.1.toNat) (by omega)
 simp only [List.nil_append] at f6_0
 obtain ⟨A6_0, c6_0, eq6_0, l6_0, k6_0⟩ := f6_0.slice
 subst eq6_0
 simp only [maxLen] at k6_0
 refine VO.as (VO.k7 0 1 2 3 4 5 12 (VC.rs (VO.mv (VO.y rfl (.fa rfl tst24 rfl) (VO.y rfl (.ld1 102 rfl tk3 rfl (cellsAt_one rfl rfl)) ?_)))))
 refine VO.callN 108 rfl fnOk57 rfl (fun W hW => rPut_ok W (OwnL.rd (Ow.ownl f6_0 rfl mnil) (hW.at (i := 106) rfl) (mle_nil _)) d0.2.1 (by simp only [inK]; (exact fin0_s19Encode_ok)) (by exact fin0_s19Encode_ok) (by exact fin0_s19Encode_ok)) (fun v8 m8 hv8 => ?_)
 obtain ⟨s8_0, rfl, f8_0⟩ := hv8
 have hfa9 := venc_len (x := d0.2.1.toNat) (by omega)
 obtain ⟨A8_0, c8_0, eq8_0, l8_0, k8_0⟩ := f8_0.slice
 subst eq8_0
 simp only [maxLen] at k8_0
 refine VO.as (VO.k7 0 1 2 3 4 5 12 (VC.rs (VO.mv (VO.y rfl (.fa rfl tst24 rfl) (VO.y rfl (.ld1 102 rfl tk22 rfl (cellsAt_one rfl rfl)) ?_)))))
 refine VO.y rfl (.lenS rfl tsl22) ?_
 refine VO.callN 110 rfl fnOk57 rfl (fun W hW => rPut_ok W (OwnL.rd (Ow.ownl f8_0 rfl mnil) (hW.at (i := 108) rfl) (mle_nil _)) ((d0.2.2.length : Nat) : Int) (by simp only [inK]; (exact fin0_s19Encode_ok)) (by exact fin0_s19Encode_ok) (by exact fin0_s19Encode_ok)) (fun v10 m10 hv10 => ?_)
 obtain ⟨s10_0, rfl, f10_0⟩ := hv10
 have hfa11 := venc_len (x := ((d0.2.2.length : Nat) : Int).toNat) (by omega)
 obtain ⟨A10_0, c10_0, eq10_0, l10_0, k10_0⟩ := f10_0.slice
 subst eq10_0
 simp only [maxLen] at k10_0
 refine VO.as ?_
 refine VO.kp [110, 102, 0] [(110, m10), (102, mone g1 (.cells #[.int .i64 (d0.1), .int .i64 (d0.2.1), .slice p0_A2 (d0.2.2.length) (p0_c2)] 24 (0, 0))), (0, wm W)] ?_
 refine VO.k7 0 1 2 3 4 5 12 (VC.rs (VO.mv ?_))
 refine VO.callN 112 rfl fnOk58 rfl (fun W hW => f9Append_ok W (Rd.nil _ _ none 0 (Nat.zero_le _)) (OwnL.rd (Ow.ownl f10_0 rfl mnil) (hW.at (i := 110) rfl) (mle_nil _)) (by exact fin0_s19Encode_ok)) (fun v12 m12 hv12 => ?_)
 obtain ⟨s12_0, rfl, f12_0⟩ := hv12
 have hfa13 := fAppend_len [] (((venc d0.1.toNat) ++ venc d0.2.1.toNat) ++ venc ((d0.2.2.length : Nat) : Int).toNat)
 have hfa14 := fAppend_range [] (((venc d0.1.toNat) ++ venc d0.2.1.toNat) ++ venc ((d0.2.2.length : Nat) : Int).toNat)
 obtain ⟨A12_0, c12_0, eq12_0, l12_0, k12_0⟩ := f12_0.slice
 subst eq12_0
 simp only [maxLen] at k12_0
 refine VO.mv (VO.y rfl (.ext rfl rfl) (VO.y rfl (.ext rfl rfl) (VO.as (VO.as (VO.k8 0 1 2 3 4 5 6 12 (VC.seq (VC.rs (VO.as (VO.k9 0 1 2 3 4 5 6 8 12 (VC.block ?_))))))))))
 refine VC.loop (G := Nat × (List UInt8) × (Option Addr) × Nat × Mem) (fun g => [(6, .slice (g.2.2.1) ((g.2.1).length) ((g.2.2.2.1))), (8, .int .i64 ((((g.1) : Nat) : Int))), (0, .agg [.int .i64 (d0.1), .int .i64 (d0.2.1), .slice p0_A2 (d0.2.2.length) (p0_c2)].toArray), (1, .pointer (some ⟨g1, 0, none⟩)), (2, .slice none (0) (0)), (3, .int .i64 (0)), (4, .int .i64 (sectCheck d0)), (5, .slice A10_0 ((((venc d0.1.toNat) ++ venc d0.2.1.toNat) ++ venc ((d0.2.2.length : Nat) : Int).toNat).length) (c10_0)), (12, .bool (decide (¬ (sectCheck d0) = 0)))]) (fun g => [(112, (g.2.2.2.2)), (110, m10), (102, mone g1 (.cells #[.int .i64 (d0.1), .int .i64 (d0.2.1), .slice p0_A2 (d0.2.2.length) (p0_c2)] 24 (0, 0))), (0, wm W)]) (fun g => ((g.1) ≤ d0.2.2.length) ∧ ((g.2.1) ++ cFrames (d0.2.2.drop (g.1)) = sectEnc d0) ∧ ((g.2.1).length ≤ 40 + 710 * (g.1)) ∧ (OwnL .byte (g.2.2.2.2) mnil (.slice (g.2.2.1) (g.2.1).length (g.2.2.2.1)) (g.2.1))) (fun g => d0.2.2.length - (g.1)) (0, (fAppend [] (((venc d0.1.toNat) ++ venc d0.2.1.toNat) ++ venc ((d0.2.2.length : Nat) : Int).toNat)).1, A12_0, c12_0, m12) (⟨by omega, by exact senc_head1 (Decidable.not_not.1 ‹¬ ¬ sectCheck d0 = 0›), by exact senc_head2 (Decidable.not_not.1 ‹¬ ¬ sectCheck d0 = 0›), (Ow.ownl f12_0 rfl mnil)⟩) ⟨⟨rfl, rfl, rfl, rfl, rfl, rfl, rfl, rfl, rfl, trivial⟩, fun _ h => h.sub [112, 110, 102, 0]⟩ ?_
 rintro ⟨k, b, b_A, b_c, b_m⟩ ⟨hk, hb, hl, h_b⟩
 replace hk : k ≤ d0.2.2.length := hk
 replace hb : b ++ cFrames (d0.2.2.drop k) = sectEnc d0 := hb
 replace hl : b.length ≤ 40 + 710 * k := hl
 replace h_b : OwnL .byte b_m mnil (.slice b_A b.length b_c) b := h_b
 show VC _ _ _ _ _ [(6, .slice b_A (b.length) (b_c)), (8, .int .i64 (((k : Nat) : Int))), (0, .agg [.int .i64 (d0.1), .int .i64 (d0.2.1), .slice p0_A2 (d0.2.2.length) (p0_c2)].toArray), (1, .pointer (some ⟨g1, 0, none⟩)), (2, .slice none (0) (0)), (3, .int .i64 (0)), (4, .int .i64 (sectCheck d0)), (5, .slice A10_0 ((((venc d0.1.toNat) ++ venc d0.2.1.toNat) ++ venc ((d0.2.2.length : Nat) : Int).toNat).length) (c10_0)), (12, .bool (decide (¬ (sectCheck d0) = 0)))] [(112, b_m), (110, m10), (102, mone g1 (.cells #[.int .i64 (d0.1), .int .i64 (d0.2.1), .slice p0_A2 (d0.2.2.length) (p0_c2)] 24 (0, 0))), (0, wm W)]
 have l_b : b.length ≤ b_c := by obtain ⟨_, _, he, hl, _⟩ := h_b.slice; simp only [Value.slice.injEq] at he; omega
 have k_b : b_c ≤ 9223372036854775807 := by obtain ⟨_, _, he, _, hl⟩ := h_b.slice; simp only [Value.slice.injEq, maxLen] at he hl; omega
 refine VC.seq (VC.rs (VO.mv (VO.y rfl (.fa rfl tst24 rfl) (VO.y rfl (.ld1 102 rfl tk22 rfl (cellsAt_one rfl rfl)) ?_))))
 refine VO.y rfl (.lenS rfl tsl22) ?_
 refine VO.y rfl (.lss rfl rfl) ?_
 refine VO.kp [112, 110, 102, 0] [(112, b_m), (110, m10), (102, mone g1 (.cells #[.int .i64 (d0.1), .int .i64 (d0.2.1), .slice p0_A2 (d0.2.2.length) (p0_c2)] 24 (0, 0))), (0, wm W)] ?_
 refine VO.k10 0 1 2 3 4 5 6 8 12 35 ?_
 refine VC.cond rfl (fun hc15 => ?_) (fun hc15 => ?_)
 · refine VC.skip (outN (VC.seq (VC.block ?_)))
   refine VC.reg ?_
   refine VO.mv (VO.y rfl (.fa rfl tst24 rfl) (VO.y rfl (.ld1 102 rfl tk22 rfl (cellsAt_one rfl rfl)) (VO.mv ?_)))
   obtain ⟨x16, hx16⟩ : ∃ z_, (d0.2.2)[k]? = some z_ := ⟨_, List.getElem?_eq_getElem (by exact fin0_s19Encode_ok)⟩
   obtain ⟨gg16, oo16, ec16, ea16, hce16, hre16⟩ := p0_2.elem hx16
   cases ea16
   obtain ⟨q16_A2, q16_c2, rfl, q16_0, q16_1, q16_2⟩ := open_Commit (x0 := x16.1) (x1 := x16.2.1) (x2 := x16.2.2) hre16
   simp only [inK] at q16_0 q16_1
   have q16_r2 := Rd.room q16_2
   refine VO.y rfl (.ixI k rfl rfl tsl22 rfl (by exact fin0_s19Encode_ok)) ?_
   refine VO.y rfl (.ldA 0 rfl tk32 rfl hce16) ?_
   refine VO.callN 117 rfl fnOk59 rfl (fun W hW => c12Frame_ok W (Rd.mono hre16 (hW.at (i := 0) rfl))) (fun v17 m17 hv17 => ?_)
   obtain ⟨s17_0, rfl, f17_0⟩ := hv17
   have hfa18 := frameC_len x16
   obtain ⟨A17_0, c17_0, eq17_0, l17_0, k17_0⟩ := f17_0.slice
   subst eq17_0
   simp only [maxLen] at k17_0
   obtain ⟨mo19, cs19, hM19, hA19, hC19⟩ := h_b
   obtain ⟨all19, hS19, hR19⟩ := Rd.srcI (P := Try.prog) ((OwnL.rd (Ow.ownl f17_0 rfl mnil) (mle_refl _) (mle_nil _))) Try.underlying25
   refine VO.app 112 rfl rfl rfl tsl25 tz5 rfl rfl hM19 hA19 (hS19 _ 117 rfl) hR19.nice (by simp only [maxLen]; (exact fin0_s19Encode_ok)) (by exact fin0_s19Encode_ok) (by decide) (fun v19 m19 hN19 => ?_)
   have ho19 : OwnL .byte m19 mnil v19 (b ++ (frameC x16)) := OwnL.more hC19 hN19 (All2c.mono hR19 fun _ _ h => Rd.flat rfl h _)
   obtain ⟨A19, c19, rfl, l19, k19⟩ := ho19.slice
   simp only [maxLen] at k19
   refine VO.as (VO.k10 0 1 2 3 4 5 6 8 12 35 (outBN (outN ?_)))
   refine VC.reg ?_
   refine VO.mv ?_
   refine VO.y rfl (.add (c := ((k + 1 : Nat) : Int)) rfl rfl (by omega) ⟨by exact fin0_s19Encode_ok, by exact fin0_s19Encode_ok⟩) ?_
   refine VO.as (VO.k10 0 1 2 3 4 5 6 8 12 35 ?_)
   exact outN ⟨⟨k + 1, b ++ (frameC x16), A19, c19, m19⟩, ⟨by omega, by exact senc_step3 (Decidable.not_not.1 ‹¬ ¬ sectCheck d0 = 0›) hb ‹d0.2.2[k]? = some _›, by exact senc_step4 (Decidable.not_not.1 ‹¬ ¬ sectCheck d0 = 0›) hl ‹d0.2.2[k]? = some _›, ho19⟩, by exact fin0_s19Encode_ok, ⟨⟨rfl, rfl, rfl, rfl, rfl, rfl, rfl, rfl, rfl, trivial⟩, fun _ h => Inv.sub h [112, 110, 102, 0]⟩⟩
 · refine VC.exit (outE (outE (outBB (outN (VC.rs (VO.mv (VO.as (VO.as (VO.k10 0 1 2 3 4 5 6 8 12 35 (VC.ret ?_))))))))))
   refine ⟨_, _, res_run (rs := [.tmp 2, .tmp 3]) rfl (.tmp rfl (.tmp rfl .nil)), fun W_ hI => out_of (l := [b_m]) hI [112] rfl rfl (mle_refl _) (fun hS_ => ?_)⟩
   dsimp only [packV]
   have he0 : ((sectEncode d0).1 : Ty.Den (.sl .byte)) = b := by first | rfl | (first | (rw [sectEncode_bad (by assumption)] <;> rfl) | (rw [sectEncode_good (by assumption)] <;> first | rfl | (dsimp only; rw [← hb, List.drop_of_length_le (by omega)]; simp [cFrames]; done) | (dsimp only; rw [he]; done)))
   refine ⟨Value.slice b_A (b.length) (b_c), ?_, ?_⟩
   rotate_left
   · rw [he0]; exact (Ow.up (OwnL.ow h_b rfl) (hS_.1 _ (.head _)))
   all_goals (first | rfl | (first | (rw [sectEncode_bad (by assumption)] <;> rfl) | (rw [sectEncode_good (by assumption)] <;> first | rfl | (dsimp only; rw [← hb, List.drop_of_length_le (by omega)]; simp [cFrames]; done) | (dsimp only; rw [he]; done))))
set_option maxHeartbeats 2000000 in
theorem head_ok (W : World) {v0 : Value} {d0 : List UInt8} (h0 : Rd (.sl .byte) (wm W) [v0] d0) : CallR Try.prog 92 [v0] W (mnil) (fun v m' => v = .tuple #[.agg [.int .i64 ((headS d0).1.1), .int .i64 ((headS d0).1.2.1), .slice none 0 0].toArray, .int .i64 ((headS d0).2.1), .bool ((headS d0).2.2)]) := by
  obtain ⟨A0, c0, rfl, l0, k0⟩ := h0.slice
  simp only [maxLen] at k0
  refine CallR.ofA (n := 39) Try.func92 rfl rfl rfl ?_
  refine VC.rs ?_
  refine VO.alloc 102 rfl tz24 (fun g1 => ?_)
  refine VO.as ?_
  refine VO.as ?_
  refine VO.k4 0 2 3 4 ?_
  refine VC.rs ?_
  refine VO.alloc 104 rfl tz80 (fun g3 => ?_)
  refine VO.k5 0 2 3 4 5 ?_
  refine VC.seq ?_
  refine VC.rs ?_
  refine VO.mv ?_
  refine VO.kp [104, 102, 0] [(104, mone g3 (.cells [Value.int .i64 (0), Value.int .i64 (0), Value.int .i64 (0)].toArray 80 (0, 0))), (102, mone g1 (.cells [Value.int .i64 (0), Value.int .i64 (0), Value.slice none (0) (0)].toArray 24 (0, 0))), (0, wm W)] ?_
  refine VO.k6 0 2 3 4 5 10 ?_
  refine VC.block ?_
  refine VC.rounds 5 (VRounds.step ?_)
  refine VC.rs ?_
  refine VO.y rfl (.lss rfl rfl) ?_
  refine VO.k7 0 2 3 4 5 10 11 ?_
  refine VC.seq ?_
  refine VC.condKT rfl (decide_eq_true (by decide)) ?_
  refine VC.skip ?_
  refine outN ?_
  refine VC.seq ?_
  refine VC.block ?_
  refine VC.rs ?_
  refine VO.mv ?_
  refine VO.as ?_
  refine VO.k8 0 2 3 4 5 6 10 11 ?_
  refine VC.rs ?_
  refine VO.mv ?_
  refine VO.callN 105 rfl fnOk111 rfl (fun W hW => vSmall_ok W (Rd.mono h0 (hW.at (i := 0) rfl)) 1048576 bdk) (fun v5 m5 hv5 => ?_)
  subst hv5
  have hfa6 := s_bounds d0 1048576 (by omega)
  refine VO.mv ?_
  refine VO.y rfl (.ext rfl rfl) ?_
  refine VO.y rfl (.ext rfl rfl) ?_
  refine VO.y rfl (.ext rfl rfl) ?_
  refine VO.as ?_
  refine VO.as ?_
  refine VO.as ?_
  refine VO.kp [104, 102, 0] [(104, mone g3 (.cells [Value.int .i64 (0), Value.int .i64 (0), Value.int .i64 (0)].toArray 80 (0, 0))), (102, mone g1 (.cells [Value.int .i64 (0), Value.int .i64 (0), Value.slice none (0) (0)].toArray 24 (0, 0))), (0, wm W)] ?_
  refine VO.k11 0 2 3 4 5 6 7 8 9 10 11 ?_
  refine VC.seq ?_
  refine VC.rs ?_
  refine VO.mv ?_
  refine VO.y rfl (.neq rfl rfl) ?_
  refine VO.k12 0 2 3 4 5 6 7 8 9 10 11 20 ?_
  refine VC.cond rfl (fun hc7 => ?_) (fun hc7 => ?_)
  · -- RT
    refine VC.rs ?_
    refine VO.y rfl (.bst (cs := [Value.int .i64 (0), Value.int .i64 (0), Value.slice none (0) (0)]) rfl tst24 tz24 rfl) ?_
    refine VO.store (k := 3) (c' := [Value.int .i64 (0), Value.int .i64 (0), Value.slice none (0) (0)]) 102 rfl rfl (.inl tk24) rfl rfl rfl rfl rfl ?_
    refine VO.as ?_
    refine VO.as ?_
    refine VO.k12 0 2 3 4 5 6 7 8 9 10 11 20 ?_
    refine VC.ret ?_
    refine outR ?_
    refine outBR ?_
    refine outR ?_
    refine outR ?_
    refine outBR ?_
    refine outR ?_
    refine ⟨_, _, res_run (rs := [.cell 2 24, .tmp 3, .tmp 4]) rfl (.agg 102 rfl tk24 rfl ⟨_, _, _, mone_self _ _, Nat.le_of_ble_eq_true rfl, rfl⟩ (.tmp rfl (.tmp rfl .nil))), fun W_ hI => out_of (l := []) hI [] rfl rfl (mle_refl _) (fun hS_ => ?_)⟩
    dsimp only [packV]
    all_goals (first | rfl | (first | (rw [headS_no1 (by assumption)] <;> rfl) | (rw [headS_x2 (by assumption)] <;> rfl) | (rw [headS_x3 (by assumption)] <;> rfl) | (rw [headS_x4 (by assumption) (by assumption) (by assumption)] <;> first | rfl | (simp only [List.length_drop]; done) | (simp only [List.length_drop]; congr 4 <;> (apply decide_eq_decide.2; omega)))))
  · -- RF
    refine VC.skip ?_
    refine outN ?_
    refine VC.regD _ 7 [(0, true), (1, true), (2, true), (3, true), (4, true), (5, true), (6, false)] follows (by kernel_rfl) (fun _ h => h.sub [102, 0]) ?_
    refine VD.y rfl rfl (.inl rfl) (.mv rfl) ?_
    refine VD.y rfl rfl (.inl rfl) (.mv rfl) ?_
    refine VD.y rfl rfl (.inl rfl) (.mv rfl) ?_
    refine VD.y rfl rfl (.inl rfl) (.mv rfl) ?_
    obtain ⟨A8, hA8, hs8⟩ := h0.drop 1 (sN d0 1048576) rfl bd
    refine VD.y rfl rfl (.inl rfl) (.slLI (sN d0 1048576) A8 rfl rfl tsl25 rfl hA8 bd) ?_
    refine VD.y rfl rfl (.inl rfl) (.ixa (i := 0) (o := 0) rfl rfl tar80 rfl rfl rfl) ?_
    refine VD.store (k := 1) (c' := [Value.int .i64 (((sX d0 1048576 : Nat) : Int)), Value.int .i64 (0), Value.int .i64 (0)]) 104 rfl rfl rfl (.inr ⟨tk3, rfl⟩) rfl rfl rfl rfl rfl (fun _ h => h.sub [102, 0]) ?_
    refine VD.nil rfl ?_ rfl
    refine VO.as ?_
    refine VO.k12 0 2 3 4 5 6 7 8 9 10 11 20 ?_
    refine outBN ?_
    refine outN ?_
    refine VC.reg ?_
    refine VO.y rfl (.add (c := ((1 : Nat) : Int)) rfl rfl (by omega) ⟨bd, bd⟩) ?_
    refine VO.mv ?_
    refine VO.kp [104, 102, 0] [(104, mone g3 (.cells [Value.int .i64 (((sX d0 1048576 : Nat) : Int)), Value.int .i64 (0), Value.int .i64 (0)].toArray 80 (0, 0))), (102, mone g1 (.cells [Value.int .i64 (0), Value.int .i64 (0), Value.slice none (0) (0)].toArray 24 (0, 0))), (0, wm W)] ?_
    refine VO.k12 0 2 3 4 5 6 7 8 9 10 11 20 ?_
    refine outN (VRounds.step ?_)
    refine VC.rs ?_
    refine VO.y rfl (.lss rfl rfl) ?_
    refine VO.k12 0 2 3 4 5 6 7 8 9 10 11 20 ?_
    refine VC.seq ?_
    refine VC.condKT rfl (decide_eq_true (by decide)) ?_
    refine VC.skip ?_
    refine outN ?_
    refine VC.seq ?_
    refine VC.block ?_
    refine VC.rs ?_
    refine VO.mv ?_
    refine VO.as ?_
    refine VO.k12 0 2 3 4 5 6 7 8 9 10 11 20 ?_
    refine VC.rs ?_
    refine VO.mv ?_
    refine VO.callN 109 rfl fnOk111 rfl (fun W hW => vSmall_ok W (Rd.mono hs8 (hW.at (i := 0) rfl)) 1048576 bdk) (fun v9 m9 hv9 => ?_)
    subst hv9
    have hfa10 := s_bounds (d0.drop (sN d0 1048576)) 1048576 (by omega)
    refine VO.mv ?_
    refine VO.y rfl (.ext rfl rfl) ?_
    refine VO.y rfl (.ext rfl rfl) ?_
    refine VO.y rfl (.ext rfl rfl) ?_
    refine VO.as ?_
    refine VO.as ?_
    refine VO.as ?_
    refine VO.kp [104, 102, 0] [(104, mone g3 (.cells [Value.int .i64 (((sX d0 1048576 : Nat) : Int)), Value.int .i64 (0), Value.int .i64 (0)].toArray 80 (0, 0))), (102, mone g1 (.cells [Value.int .i64 (0), Value.int .i64 (0), Value.slice none (0) (0)].toArray 24 (0, 0))), (0, wm W)] ?_
    refine VO.k12 0 2 3 4 5 6 7 8 9 10 11 20 ?_
    refine VC.seq ?_
    refine VC.rs ?_
    refine VO.mv ?_
    refine VO.y rfl (.neq rfl rfl) ?_
    refine VO.k12 0 2 3 4 5 6 7 8 9 10 11 20 ?_
    refine VC.cond rfl (fun hc11 => ?_) (fun hc11 => ?_)
    · -- RFRT
      refine VC.rs ?_
      refine VO.y rfl (.bst (cs := [Value.int .i64 (0), Value.int .i64 (0), Value.slice none (0) (0)]) rfl tst24 tz24 rfl) ?_
      refine VO.store (k := 3) (c' := [Value.int .i64 (0), Value.int .i64 (0), Value.slice none (0) (0)]) 102 rfl rfl (.inl tk24) rfl rfl rfl rfl rfl ?_
      refine VO.as ?_
      refine VO.as ?_
      refine VO.k12 0 2 3 4 5 6 7 8 9 10 11 20 ?_
      refine VC.ret ?_
      refine outR ?_
      refine outBR ?_
      refine outR ?_
      refine outR ?_
      refine outBR ?_
      refine outR ?_
      refine ⟨_, _, res_run (rs := [.cell 2 24, .tmp 3, .tmp 4]) rfl (.agg 102 rfl tk24 rfl ⟨_, _, _, mone_self _ _, Nat.le_of_ble_eq_true rfl, rfl⟩ (.tmp rfl (.tmp rfl .nil))), fun W_ hI => out_of (l := []) hI [] rfl rfl (mle_refl _) (fun hS_ => ?_)⟩
      dsimp only [packV]
      all_goals (first | rfl | (first | (rw [headS_no1 (by assumption)] <;> rfl) | (rw [headS_x2 (by assumption)] <;> rfl) | (rw [headS_x3 (by assumption)] <;> rfl) | (rw [headS_x4 (by assumption) (by assumption) (by assumption)] <;> first | rfl | (simp only [List.length_drop]; done) | (simp only [List.length_drop]; congr 4 <;> (apply decide_eq_decide.2; omega)))))
    · -- RFRF
      refine VC.skip ?_
      refine outN ?_
      refine VC.regD _ 7 [(0, true), (1, true), (2, true), (3, true), (4, true), (5, true), (6, false)] follows (by kernel_rfl) (fun _ h => h.sub [102, 0]) ?_
      refine VD.y rfl rfl (.inl rfl) (.mv rfl) ?_
      refine VD.y rfl rfl (.inl rfl) (.mv rfl) ?_
      refine VD.y rfl rfl (.inl rfl) (.mv rfl) ?_
      refine VD.y rfl rfl (.inl rfl) (.mv rfl) ?_
      obtain ⟨A12, hA12, hs12⟩ := hs8.drop 1 (sN (d0.drop (sN d0 1048576)) 1048576) rfl bd
      replace hs12 := Rd.relen (k := (d0.length - (sN d0 1048576)) - (sN (d0.drop (sN d0 1048576)) 1048576)) hs12 (by simp only [List.length_drop, List.length_take]; try omega)
      refine VD.y rfl rfl (.inl rfl) (.slLI (sN (d0.drop (sN d0 1048576)) 1048576) A12 rfl rfl tsl25 rfl hA12 bd) ?_
      refine VD.y rfl rfl (.inl rfl) (.ixa (i := 1) (o := 1) rfl rfl tar80 rfl rfl rfl) ?_
      refine VD.store (k := 1) (c' := [Value.int .i64 (((sX d0 1048576 : Nat) : Int)), Value.int .i64 (((sX (d0.drop (sN d0 1048576)) 1048576 : Nat) : Int)), Value.int .i64 (0)]) 104 rfl rfl rfl (.inr ⟨tk3, rfl⟩) rfl rfl rfl rfl rfl (fun _ h => h.sub [102, 0]) ?_
      refine VD.nil rfl ?_ rfl
      refine VO.as ?_
      refine VO.k12 0 2 3 4 5 6 7 8 9 10 11 20 ?_
      refine outBN ?_
      refine outN ?_
      refine VC.reg ?_
      refine VO.y rfl (.add (c := ((2 : Nat) : Int)) rfl rfl (by omega) ⟨bd, bd⟩) ?_
      refine VO.mv ?_
      refine VO.kp [104, 102, 0] [(104, mone g3 (.cells [Value.int .i64 (((sX d0 1048576 : Nat) : Int)), Value.int .i64 (((sX (d0.drop (sN d0 1048576)) 1048576 : Nat) : Int)), Value.int .i64 (0)].toArray 80 (0, 0))), (102, mone g1 (.cells [Value.int .i64 (0), Value.int .i64 (0), Value.slice none (0) (0)].toArray 24 (0, 0))), (0, wm W)] ?_
      refine VO.k12 0 2 3 4 5 6 7 8 9 10 11 20 ?_
      refine outN (VRounds.step ?_)
      refine VC.rs ?_
      refine VO.y rfl (.lss rfl rfl) ?_
      refine VO.k12 0 2 3 4 5 6 7 8 9 10 11 20 ?_
      refine VC.seq ?_
      refine VC.condKT rfl (decide_eq_true (by decide)) ?_
      refine VC.skip ?_
      refine outN ?_
      refine VC.seq ?_
      refine VC.block ?_
      refine VC.rs ?_
      refine VO.mv ?_
      refine VO.as ?_
      refine VO.k12 0 2 3 4 5 6 7 8 9 10 11 20 ?_
      refine VC.rs ?_
      refine VO.mv ?_
      refine VO.callN 113 rfl fnOk111 rfl (fun W hW => vSmall_ok W (Rd.mono hs12 (hW.at (i := 0) rfl)) 1048576 bdk) (fun v13 m13 hv13 => ?_)
      subst hv13
      have hfa14 := s_bounds ((d0.drop (sN d0 1048576)).drop (sN (d0.drop (sN d0 1048576)) 1048576)) 1048576 (by omega)
      refine VO.mv ?_
      refine VO.y rfl (.ext rfl rfl) ?_
      refine VO.y rfl (.ext rfl rfl) ?_
      refine VO.y rfl (.ext rfl rfl) ?_
      refine VO.as ?_
      refine VO.as ?_
      refine VO.as ?_
      refine VO.kp [104, 102, 0] [(104, mone g3 (.cells [Value.int .i64 (((sX d0 1048576 : Nat) : Int)), Value.int .i64 (((sX (d0.drop (sN d0 1048576)) 1048576 : Nat) : Int)), Value.int .i64 (0)].toArray 80 (0, 0))), (102, mone g1 (.cells [Value.int .i64 (0), Value.int .i64 (0), Value.slice none (0) (0)].toArray 24 (0, 0))), (0, wm W)] ?_
      refine VO.k12 0 2 3 4 5 6 7 8 9 10 11 20 ?_
      refine VC.seq ?_
      refine VC.rs ?_
      refine VO.mv ?_
      refine VO.y rfl (.neq rfl rfl) ?_
      refine VO.k12 0 2 3 4 5 6 7 8 9 10 11 20 ?_
      refine VC.cond rfl (fun hc15 => ?_) (fun hc15 => ?_)
      · -- RFRFRT
        refine VC.rs ?_
        refine VO.y rfl (.bst (cs := [Value.int .i64 (0), Value.int .i64 (0), Value.slice none (0) (0)]) rfl tst24 tz24 rfl) ?_
        refine VO.store (k := 3) (c' := [Value.int .i64 (0), Value.int .i64 (0), Value.slice none (0) (0)]) 102 rfl rfl (.inl tk24) rfl rfl rfl rfl rfl ?_
        refine VO.as ?_
        refine VO.as ?_
        refine VO.k12 0 2 3 4 5 6 7 8 9 10 11 20 ?_
        refine VC.ret ?_
        refine outR ?_
        refine outBR ?_
        refine outR ?_
        refine outR ?_
        refine outBR ?_
        refine outR ?_
        refine ⟨_, _, res_run (rs := [.cell 2 24, .tmp 3, .tmp 4]) rfl (.agg 102 rfl tk24 rfl ⟨_, _, _, mone_self _ _, Nat.le_of_ble_eq_true rfl, rfl⟩ (.tmp rfl (.tmp rfl .nil))), fun W_ hI => out_of (l := []) hI [] rfl rfl (mle_refl _) (fun hS_ => ?_)⟩
        dsimp only [packV]
        all_goals (first | rfl | (first | (rw [headS_no1 (by assumption)] <;> rfl) | (rw [headS_x2 (by assumption)] <;> rfl) | (rw [headS_x3 (by assumption)] <;> rfl) | (rw [headS_x4 (by assumption) (by assumption) (by assumption)] <;> first | rfl | (simp only [List.length_drop]; done) | (simp only [List.length_drop]; congr 4 <;> (apply decide_eq_decide.2; omega)))))
      · -- RFRFRF
        refine VC.skip ?_
        refine outN ?_
        refine VC.regD _ 7 [(0, true), (1, true), (2, true), (3, true), (4, true), (5, true), (6, false)] follows (by kernel_rfl) (fun _ h => h.sub [102, 0]) ?_
        refine VD.y rfl rfl (.inl rfl) (.mv rfl) ?_
        refine VD.y rfl rfl (.inl rfl) (.mv rfl) ?_
        refine VD.y rfl rfl (.inl rfl) (.mv rfl) ?_
        refine VD.y rfl rfl (.inl rfl) (.mv rfl) ?_
        obtain ⟨A16, hA16, hs16⟩ := hs12.drop 1 (sN ((d0.drop (sN d0 1048576)).drop (sN (d0.drop (sN d0 1048576)) 1048576)) 1048576) rfl bd
        replace hs16 := Rd.relen (k := ((d0.length - (sN d0 1048576)) - (sN (d0.drop (sN d0 1048576)) 1048576)) - (sN ((d0.drop (sN d0 1048576)).drop (sN (d0.drop (sN d0 1048576)) 1048576)) 1048576)) hs16 (by simp only [List.length_drop, List.length_take]; try omega)
        refine VD.y rfl rfl (.inl rfl) (.slLI (sN ((d0.drop (sN d0 1048576)).drop (sN (d0.drop (sN d0 1048576)) 1048576)) 1048576) A16 rfl rfl tsl25 rfl hA16 bd) ?_
        refine VD.y rfl rfl (.inl rfl) (.ixa (i := 2) (o := 2) rfl rfl tar80 rfl rfl rfl) ?_
        refine VD.store (k := 1) (c' := [Value.int .i64 (((sX d0 1048576 : Nat) : Int)), Value.int .i64 (((sX (d0.drop (sN d0 1048576)) 1048576 : Nat) : Int)), Value.int .i64 (((sX ((d0.drop (sN d0 1048576)).drop (sN (d0.drop (sN d0 1048576)) 1048576)) 1048576 : Nat) : Int))]) 104 rfl rfl rfl (.inr ⟨tk3, rfl⟩) rfl rfl rfl rfl rfl (fun _ h => h.sub [102, 0]) ?_
        refine VD.nil rfl ?_ rfl
        refine VO.as ?_
        refine VO.k12 0 2 3 4 5 6 7 8 9 10 11 20 ?_
        refine outBN ?_
        refine outN ?_
        refine VC.reg ?_
        refine VO.y rfl (.add (c := ((3 : Nat) : Int)) rfl rfl (by omega) ⟨bd, bd⟩) ?_
        refine VO.mv ?_
        refine VO.kp [104, 102, 0] [(104, mone g3 (.cells [Value.int .i64 (((sX d0 1048576 : Nat) : Int)), Value.int .i64 (((sX (d0.drop (sN d0 1048576)) 1048576 : Nat) : Int)), Value.int .i64 (((sX ((d0.drop (sN d0 1048576)).drop (sN (d0.drop (sN d0 1048576)) 1048576)) 1048576 : Nat) : Int))].toArray 80 (0, 0))), (102, mone g1 (.cells [Value.int .i64 (0), Value.int .i64 (0), Value.slice none (0) (0)].toArray 24 (0, 0))), (0, wm W)] ?_
        refine VO.k12 0 2 3 4 5 6 7 8 9 10 11 20 ?_
        refine outN (VRounds.step ?_)
        refine VC.rs ?_
        refine VO.y rfl (.lss rfl rfl) ?_
        refine VO.k12 0 2 3 4 5 6 7 8 9 10 11 20 ?_
        refine VC.seq ?_
        refine VC.condKF rfl (decide_eq_false (by decide)) ?_
        refine VC.exit ?_
        refine outE ?_
        refine outE ?_
        refine outBB ?_
        refine outN ?_
        refine VC.seq ?_
        refine VC.regD _ 12 [(0, true), (1, true), (2, true), (3, true), (4, true), (5, true), (6, true), (7, true), (8, true), (9, true), (10, false), (11, true)] follows (by kernel_rfl) (fun _ h => h.sub [104, 0]) ?_
        refine VD.y rfl rfl (.inl rfl) (.ixa (i := 0) (o := 0) rfl rfl tar80 rfl rfl rfl) ?_
        refine VD.y rfl rfl (.inl rfl) (.ld1 104 rfl tk3 rfl (cellsAt_one rfl rfl)) ?_
        refine VD.y rfl rfl (.inl rfl) (.ixa (i := 1) (o := 1) rfl rfl tar80 rfl rfl rfl) ?_
        refine VD.y rfl rfl (.inl rfl) (.ld1 104 rfl tk3 rfl (cellsAt_one rfl rfl)) ?_
        refine VD.y rfl rfl (.inl rfl) (.bst (cs := [Value.int .i64 (((sX d0 1048576 : Nat) : Int)), Value.int .i64 (((sX (d0.drop (sN d0 1048576)) 1048576 : Nat) : Int)), Value.slice none (0) (0)]) rfl tst24 tz24 rfl) ?_
        refine VD.y rfl rfl (.inl rfl) (.ixa (i := 2) (o := 2) rfl rfl tar80 rfl rfl rfl) ?_
        refine VD.y rfl rfl (.inl rfl) (.ld1 104 rfl tk3 rfl (cellsAt_one rfl rfl)) ?_
        refine VD.y rfl rfl (.inl rfl) (.mv rfl) ?_
        refine VD.y rfl rfl (.inl rfl) (.lenS rfl tsl25) ?_
        refine VD.y rfl rfl (.inl rfl) (.eql rfl rfl) ?_
        refine VD.store (k := 3) (c' := [Value.int .i64 (((sX d0 1048576 : Nat) : Int)), Value.int .i64 (((sX (d0.drop (sN d0 1048576)) 1048576 : Nat) : Int)), Value.slice none (0) (0)]) 102 rfl rfl rfl (.inl tk24) rfl rfl rfl rfl rfl (fun _ h => h.sub [104, 0]) ?_
        refine VD.y rfl rfl (.inl rfl) (.as rfl) ?_
        refine VD.nil rfl ?_ rfl
        refine VO.as ?_
        refine VO.k12 0 2 3 4 5 6 7 8 9 10 11 20 ?_
        refine outN ?_
        refine VC.ret ?_
        refine ⟨_, _, res_run (rs := [.cell 2 24, .tmp 3, .tmp 4]) rfl (.agg 102 rfl tk24 rfl ⟨_, _, _, mone_self _ _, Nat.le_of_ble_eq_true rfl, rfl⟩ (.tmp rfl (.tmp rfl .nil))), fun W_ hI => out_of (l := []) hI [] rfl rfl (mle_refl _) (fun hS_ => ?_)⟩
        dsimp only [packV]
        all_goals (first | rfl | (first | (rw [headS_no1 (by assumption)] <;> rfl) | (rw [headS_x2 (by assumption)] <;> rfl) | (rw [headS_x3 (by assumption)] <;> rfl) | (rw [headS_x4 (by assumption) (by assumption) (by assumption)] <;> first | rfl | (simp only [List.length_drop]; done) | (simp only [List.length_drop]; congr 4 <;> (apply decide_eq_decide.2; omega)))))
theorem fin0_section_ok {P : Prop} (h : P := by first | (rw [sec_no1 (by assumption)] <;> rfl) | (rw [sec_no2 (by first | assumption | simpa using ‹_›)] <;> rfl) | (rw [sec_no3 (by assumption) (by simp [*]) (com_no1 hp (by omega) (by assumption))] <;> rfl) | (rw [sec_no3 (by assumption) (by simp [*]) (com_no2 hp (by omega) (by assumption) (by assumption))] <;> rfl) | (rw [sec_yes (by assumption) (by simp [*]) (com_end hp (by omega))] <;> first | rfl | (done))) : P := h
theorem fin1_section_ok {P : Prop} (h : P := by first | omega | (simp only [List.length_append, List.length_nil, List.length_cons, List.length_take, List.length_drop] at *; omega) | (have h_ := headS_range (fRead d0).1; omega)) : P := h
theorem section_ok (W : World) {v0 : Value} {d0 : List UInt8} (h0 : Rd (.sl .byte) (wm W) [v0] d0) : CallR Try.prog 60 [v0] W (mnil) (fun v m' => ∃ (s0 : List Value), v = .tuple #[.agg s0.toArray, .int .i64 ((secRead d0).2.1), .bool ((secRead d0).2.2)] ∧ Ow TSection m' s0 ((secRead d0).1)) := by
 obtain ⟨A0, c0, rfl, l0, k0⟩ := h0.slice
 simp only [maxLen] at k0
 refine CallR.ofA (n := 70) Try.func60 rfl rfl rfl ?_
 refine VC.rs ?_
 refine VO.alloc 102 rfl tz24 (fun g1 => ?_)
 refine VO.as (VO.as (VO.k4 0 2 3 4 (VC.rs (VO.mv ?_))))
 refine VO.callN 103 rfl fnOk91 rfl (fun W hW => fRead_ok W (Rd.mono h0 (hW.at (i := 0) rfl))) (fun v3 m3 hv3 => ?_)
 obtain ⟨s3_0, rfl, f3_0⟩ := hv3
 have hfa4 := fRead_bounds d0
 obtain ⟨A3_0, c3_0, eq3_0, l3_0, k3_0⟩ := f3_0.slice
 subst eq3_0
 simp only [maxLen] at k3_0
 refine VO.mv (VO.y rfl (.ext rfl rfl) (VO.y rfl (.ext rfl rfl) (VO.y rfl (.ext rfl rfl) (VO.as (VO.as (VO.as (VO.k7 0 2 3 4 5 6 7 (VC.seq (VC.rs (VO.mv (VO.y rfl (.neq rfl rfl) ?_)))))))))))
 refine VO.kp [103, 102, 0] [(103, m3), (102, mone g1 (.cells #[.int .i64 (0), .int .i64 (0), .slice none (0) (0)] 24 (0, 0))), (0, wm W)] ?_
 refine VO.k8 0 2 3 4 5 6 7 22 ?_
 refine VC.cond rfl (fun hc5 => ?_) (fun hc5 => ?_)
 · refine VC.rs ?_
   refine VO.y rfl (.bst (cs := [.int .i64 (0), .int .i64 (0), .slice none (0) (0)]) rfl tst24 tz24 rfl) ?_
   refine VO.store (k := 3) (c' := [Value.int .i64 (0), Value.int .i64 (0), Value.slice none (0) (0)]) 102 rfl rfl (.inl tk24) rfl rfl rfl rfl rfl ?_
   refine VO.as (VO.as (VO.k8 0 2 3 4 5 6 7 22 (VC.ret (outR ?_))))
   refine ⟨_, _, res_run (rs := [.cell 2 24, .tmp 3, .tmp 4]) rfl (.agg 102 rfl tk24 rfl ⟨_, _, _, mone_self _ _, Nat.le_of_ble_eq_true rfl, rfl⟩ (.tmp rfl (.tmp rfl .nil))), fun W_ hI => out_of (l := []) hI [] rfl rfl (mle_refl _) (fun hS_ => ?_)⟩
   dsimp only [packV]
   have he0 : ((secRead d0).1 : Ty.Den TSection) = (0, 0, []) := by first | rfl | (exact fin0_section_ok)
   refine ⟨[Value.int .i64 (0), Value.int .i64 (0), Value.slice none (0) (0)], ?_, ?_⟩
   rotate_left
   · rw [he0]; exact (mkO_Section 0 0 [] (Seps.nilAt 0 hS_) (by simp only [inK]; (exact fin1_section_ok)) (by simp only [inK]; (exact fin1_section_ok)) (Ow.nil _ _))
   all_goals (first | rfl | (exact fin0_section_ok))
 refine VC.skip (outN (VC.rs (VO.mv ?_)))
 refine VO.callN 106 rfl fnOk92 rfl (fun W hW => head_ok W (OwnL.rd (Ow.ownl f3_0 rfl mnil) (hW.at (i := 103) rfl) (mle_nil _))) (fun v6 m6 hv6 => ?_)
 subst hv6
 have hfa7 := headS_range ((fRead d0).1)
 refine VO.mv (VO.y rfl (.ext rfl rfl) (VO.y rfl (.ext rfl rfl) (VO.y rfl (.ext rfl rfl) ?_)))
 refine VO.alloc 109 rfl tz24 (fun g8 => ?_)
 refine VO.store (k := 3) (c' := [Value.int .i64 ((headS ((fRead d0).1)).1.1), Value.int .i64 ((headS ((fRead d0).1)).1.2.1), Value.slice none (0) (0)]) 109 rfl rfl (.inl tk24) rfl rfl rfl rfl rfl ?_
 refine VO.as (VO.as (VO.k11 0 2 3 4 5 6 7 8 9 10 22 (VC.seq (VC.rs (VO.mv (VO.y rfl (.not rfl) (VO.k12 0 2 3 4 5 6 7 8 9 10 22 31 ?_)))))))
 refine VC.condBN rfl (fun hc10 => ?_) (fun hc10 => ?_)
 · refine VC.rs ?_
   refine VO.y rfl (.bst (cs := [.int .i64 (0), .int .i64 (0), .slice none (0) (0)]) rfl tst24 tz24 rfl) ?_
   refine VO.store (k := 3) (c' := [Value.int .i64 (0), Value.int .i64 (0), Value.slice none (0) (0)]) 102 rfl rfl (.inl tk24) rfl rfl rfl rfl rfl ?_
   refine VO.as (VO.as ?_)
   refine VO.kp [109, 103, 102, 0] [(109, mone g8 (.cells #[.int .i64 ((headS ((fRead d0).1)).1.1), .int .i64 ((headS ((fRead d0).1)).1.2.1), .slice none (0) (0)] 24 (0, 0))), (103, m3), (102, mone g1 (.cells #[.int .i64 (0), .int .i64 (0), .slice none (0) (0)] 24 (0, 0))), (0, wm W)] ?_
   refine VO.k12 0 2 3 4 5 6 7 8 9 10 22 31 (VC.ret (outR ?_))
   refine ⟨_, _, res_run (rs := [.cell 2 24, .tmp 3, .tmp 4]) rfl (.agg 102 rfl tk24 rfl ⟨_, _, _, mone_self _ _, Nat.le_of_ble_eq_true rfl, rfl⟩ (.tmp rfl (.tmp rfl .nil))), fun W_ hI => out_of (l := []) hI [] rfl rfl (mle_refl _) (fun hS_ => ?_)⟩
   dsimp only [packV]
   have he0 : ((secRead d0).1 : Ty.Den TSection) = (0, 0, []) := by first | rfl | (exact fin0_section_ok)
   refine ⟨[Value.int .i64 (0), Value.int .i64 (0), Value.slice none (0) (0)], ?_, ?_⟩
   rotate_left
   · rw [he0]; exact (mkO_Section 0 0 [] (Seps.nilAt 0 hS_) (by simp only [inK]; (exact fin1_section_ok)) (by simp only [inK]; (exact fin1_section_ok)) (Ow.nil _ _))
   all_goals (first | rfl | (exact fin0_section_ok))
 refine VC.skip (outN (VC.seq (VC.rs (VO.mv (VO.mv ?_)))))
 refine VO.kp [109, 103, 102, 0] [(109, mone g8 (.cells #[.int .i64 ((headS ((fRead d0).1)).1.1), .int .i64 ((headS ((fRead d0).1)).1.2.1), .slice none (0) (0)] 24 (0, 0))), (103, m3), (102, mone g1 (.cells #[.int .i64 (0), .int .i64 (0), .slice none (0) (0)] 24 (0, 0))), (0, wm W)] ?_
 refine VO.k14 0 2 3 4 5 6 7 8 9 10 22 31 33 34 (VC.block ?_)
 refine VC.inv ((111, mnil) :: _) (fun _ h => h.nilc 111) ?_
 refine VC.loop (G := (List DCommit) × (Option Addr) × Nat × Mem × Int × Nat) (fun g => [(6, .int .i64 ((g.2.2.2.2.1))), (34, .int .i64 ((((g.2.2.2.2.2) : Nat) : Int))), (0, .slice A0 (d0.length) (c0)), (2, .pointer (some ⟨g1, 0, none⟩)), (5, .slice A3_0 (((fRead d0).1).length) (c3_0)), (7, .int .i64 ((fRead d0).2.2)), (8, .pointer (some ⟨g8, 0, none⟩)), (9, .int .i64 ((headS ((fRead d0).1)).2.1)), (10, .bool ((headS ((fRead d0).1)).2.2)), (22, .bool (decide (¬ ((fRead d0).2.2) = 0))), (31, .bool (!((headS ((fRead d0).1)).2.2))), (33, .int .i64 ((headS ((fRead d0).1)).2.1))]) (fun g => [(111, (g.2.2.2.1)), (109, mone g8 (.cells #[.int .i64 ((headS ((fRead d0).1)).1.1), .int .i64 ((headS ((fRead d0).1)).1.2.1), .slice (g.2.1) ((g.1).length) ((g.2.2.1))] 24 (0, 0))), (103, m3), (102, mone g1 (.cells #[.int .i64 (0), .int .i64 (0), .slice none (0) (0)] 24 (0, 0))), (0, wm W)]) (fun g => (comGo (headS (fRead d0).1).2.1.toNat d0 [] (fRead d0).2.1 = comGo ((headS (fRead d0).1).2.1.toNat - (g.2.2.2.2.2)) d0 (g.1) (g.2.2.2.2.1)) ∧ (0 ≤ (g.2.2.2.2.1) ∧ (g.2.2.2.2.1) ≤ d0.length) ∧ ((g.2.2.2.2.2) ≤ (headS (fRead d0).1).2.1.toNat) ∧ ((g.1).length = (g.2.2.2.2.2)) ∧ (Ow (.sl TCommit) (g.2.2.2.1) [.slice (g.2.1) (g.1).length (g.2.2.1)] (g.1))) (fun g => (headS (fRead d0).1).2.1.toNat - (g.2.2.2.2.2)) ([], none, 0, mnil, (fRead d0).2.1, 0) (⟨by rfl, by (dsimp only; omega), by (dsimp only; omega), by rfl, (Ow.nil TCommit mnil)⟩) ⟨⟨rfl, rfl, rfl, rfl, rfl, rfl, rfl, rfl, rfl, rfl, rfl, rfl, trivial⟩, fun _ h => h.sub [111, 109, 103, 102, 0]⟩ ?_
 rintro ⟨cs, cs_A, cs_c, cs_m, at_, j⟩ ⟨hp, ha0, hj, hl, h_cs⟩
 replace hp : comGo (headS (fRead d0).1).2.1.toNat d0 [] (fRead d0).2.1 = comGo ((headS (fRead d0).1).2.1.toNat - j) d0 cs at_ := hp
 replace ha0 : 0 ≤ at_ ∧ at_ ≤ d0.length := ha0
 replace hj : j ≤ (headS (fRead d0).1).2.1.toNat := hj
 replace hl : cs.length = j := hl
 replace h_cs : Ow (.sl TCommit) cs_m [.slice cs_A cs.length cs_c] cs := h_cs
 show VC _ _ _ _ _ [(6, .int .i64 (at_)), (34, .int .i64 (((j : Nat) : Int))), (0, .slice A0 (d0.length) (c0)), (2, .pointer (some ⟨g1, 0, none⟩)), (5, .slice A3_0 (((fRead d0).1).length) (c3_0)), (7, .int .i64 ((fRead d0).2.2)), (8, .pointer (some ⟨g8, 0, none⟩)), (9, .int .i64 ((headS ((fRead d0).1)).2.1)), (10, .bool ((headS ((fRead d0).1)).2.2)), (22, .bool (decide (¬ ((fRead d0).2.2) = 0))), (31, .bool (!((headS ((fRead d0).1)).2.2))), (33, .int .i64 ((headS ((fRead d0).1)).2.1))] [(111, cs_m), (109, mone g8 (.cells #[.int .i64 ((headS ((fRead d0).1)).1.1), .int .i64 ((headS ((fRead d0).1)).1.2.1), .slice cs_A (cs.length) (cs_c)] 24 (0, 0))), (103, m3), (102, mone g1 (.cells #[.int .i64 (0), .int .i64 (0), .slice none (0) (0)] 24 (0, 0))), (0, wm W)]
 have l_cs : cs.length ≤ cs_c := by obtain ⟨_, _, he, hl, _⟩ := h_cs.slice; simp only [Value.slice.injEq] at he; omega
 have k_cs : cs_c ≤ 9223372036854775807 := by obtain ⟨_, _, he, _, hl⟩ := h_cs.slice; simp only [Value.slice.injEq, maxLen] at he hl; omega
 have hr := headS_range (fRead d0).1
 refine VC.rs (VO.y rfl (.lss rfl rfl) (VO.k13 0 2 5 6 7 8 9 10 22 31 33 34 35 (VC.seq ?_)))
 refine VC.cond rfl (fun hc12 => ?_) (fun hc12 => ?_)
 refine VC.skip (outN (VC.seq (VC.block (VC.rs (VO.mv (VO.mv ?_))))))
 obtain ⟨A13, hA13, hs13⟩ := h0.drop 1 ((at_).toNat) rfl (by exact fin1_section_ok)
 refine VO.y rfl (.slLI ((at_).toNat) A13 rfl rfl tsl25 (by exact fin1_section_ok) hA13 (by exact fin1_section_ok)) ?_
 refine VO.callN 114 rfl fnOk91 rfl (fun W hW => fRead_ok W (Rd.mono hs13 (hW.at (i := 0) rfl))) (fun v14 m14 hv14 => ?_)
 obtain ⟨s14_0, rfl, f14_0⟩ := hv14
 have hfa15 := fRead_bounds (d0.drop ((at_).toNat))
 obtain ⟨A14_0, c14_0, eq14_0, l14_0, k14_0⟩ := f14_0.slice
 subst eq14_0
 simp only [maxLen] at k14_0
 refine VO.mv (VO.y rfl (.ext rfl rfl) (VO.y rfl (.ext rfl rfl) (VO.y rfl (.ext rfl rfl) (VO.as (VO.as (VO.as (VO.k16 0 2 5 6 7 8 9 10 11 12 13 22 31 33 34 35 (VC.seq (VC.rs (VO.mv (VO.y rfl (.neq rfl rfl) ?_)))))))))))
 refine VO.kp [114, 111, 109, 103, 102, 0] [(114, m14), (111, cs_m), (109, mone g8 (.cells #[.int .i64 ((headS ((fRead d0).1)).1.1), .int .i64 ((headS ((fRead d0).1)).1.2.1), .slice cs_A (cs.length) (cs_c)] 24 (0, 0))), (103, m3), (102, mone g1 (.cells #[.int .i64 (0), .int .i64 (0), .slice none (0) (0)] 24 (0, 0))), (0, wm W)] ?_
 refine VO.k17 0 2 5 6 7 8 9 10 11 12 13 22 31 33 34 35 45 ?_
 refine VC.cond rfl (fun hc16 => ?_) (fun hc16 => ?_)
 · refine VC.rs ?_
   refine VO.y rfl (.bst (cs := [.int .i64 (0), .int .i64 (0), .slice none (0) (0)]) rfl tst24 tz24 rfl) ?_
   refine VO.store (k := 3) (c' := [Value.int .i64 (0), Value.int .i64 (0), Value.slice none (0) (0)]) 102 rfl rfl (.inl tk24) rfl rfl rfl rfl rfl ?_
   refine VO.as (VO.as (VO.k19 0 2 3 4 5 6 7 8 9 10 11 12 13 22 31 33 34 35 45 (VC.ret (outR (outBR (outR (outR (outBR (outR ?_)))))))))
   refine ⟨_, _, res_run (rs := [.cell 2 24, .tmp 3, .tmp 4]) rfl (.agg 102 rfl tk24 rfl ⟨_, _, _, mone_self _ _, Nat.le_of_ble_eq_true rfl, rfl⟩ (.tmp rfl (.tmp rfl .nil))), fun W_ hI => out_of (l := []) hI [] rfl rfl (mle_refl _) (fun hS_ => ?_)⟩
   dsimp only [packV]
   have he0 : ((secRead d0).1 : Ty.Den TSection) = (0, 0, []) := by first | rfl | (exact fin0_section_ok)
   refine ⟨[Value.int .i64 (0), Value.int .i64 (0), Value.slice none (0) (0)], ?_, ?_⟩
   rotate_left
   · rw [he0]; exact (mkO_Section 0 0 [] (Seps.nilAt 0 hS_) (by simp only [inK]; (exact fin1_section_ok)) (by simp only [inK]; (exact fin1_section_ok)) (Ow.nil _ _))
   all_goals (first | rfl | (exact fin0_section_ok))
 refine VC.skip (outN (VC.rs (VO.mv ?_)))
 refine VO.callN 117 rfl fnOk93 rfl (fun W hW => cDecode_ok_ W (OwnL.rd (Ow.ownl f14_0 rfl mnil) (hW.at (i := 114) rfl) (mle_nil _))) (fun v17 m17 hv17 => ?_)
 obtain ⟨s17_0, rfl, f17_0⟩ := hv17
 have hfa18 := cDecode_fits ((fRead (d0.drop ((at_).toNat))).1)
 obtain ⟨q17_0_A2, q17_0_c2, q17_0_n2, rfl, q17_0_S, q17_0_0, q17_0_1, q17_0_2⟩ := openO_Commit (x0 := ((cDecode ((fRead (d0.drop ((at_).toNat))).1)).1).1) (x1 := ((cDecode ((fRead (d0.drop ((at_).toNat))).1)).1).2.1) (x2 := ((cDecode ((fRead (d0.drop ((at_).toNat))).1)).1).2.2) f17_0
 simp only [inK] at q17_0_0 q17_0_1
 have q17_0_r2 := q17_0_2.rm
 refine VO.inv _ (fun _ h => h.parts (i := 117) rfl q17_0_S [119]) ?_
 refine VO.mv (VO.y rfl (.ext rfl rfl) (VO.y rfl (.ext rfl rfl) ?_))
 refine VO.alloc 121 rfl tz32 (fun g20 => ?_)
 refine VO.store (k := 3) (c' := [Value.int .i64 (((cDecode ((fRead (d0.drop ((at_).toNat))).1)).1).1), Value.int .i64 (((cDecode ((fRead (d0.drop ((at_).toNat))).1)).1).2.1), Value.slice q17_0_A2 ((((cDecode ((fRead (d0.drop ((at_).toNat))).1)).1).2.2).length) (q17_0_c2)]) 121 rfl rfl (.inl tk32) rfl rfl rfl rfl rfl ?_
 refine VO.as (VO.k18 0 2 5 6 7 8 9 10 11 12 13 14 22 31 33 34 35 45 (VC.seq (VC.rs (VO.mv (VO.y rfl (.neq rfl rfl) (VO.k19 0 2 5 6 7 8 9 10 11 12 13 14 22 31 33 34 35 45 53 ?_))))))
 refine VC.cond rfl (fun hc22 => ?_) (fun hc22 => ?_)
 · refine VC.rs ?_
   refine VO.y rfl (.bst (cs := [.int .i64 (0), .int .i64 (0), .slice none (0) (0)]) rfl tst24 tz24 rfl) ?_
   refine VO.store (k := 3) (c' := [Value.int .i64 (0), Value.int .i64 (0), Value.slice none (0) (0)]) 102 rfl rfl (.inl tk24) rfl rfl rfl rfl rfl ?_
   refine VO.as (VO.as ?_)
   refine VO.kp [121, 119, 114, 111, 109, 103, 102, 0] [(121, mone g20 (.cells #[.int .i64 (((cDecode ((fRead (d0.drop ((at_).toNat))).1)).1).1), .int .i64 (((cDecode ((fRead (d0.drop ((at_).toNat))).1)).1).2.1), .slice q17_0_A2 ((((cDecode ((fRead (d0.drop ((at_).toNat))).1)).1).2.2).length) (q17_0_c2)] 32 (0, 0))), (119, q17_0_n2), (114, m14), (111, cs_m), (109, mone g8 (.cells #[.int .i64 ((headS ((fRead d0).1)).1.1), .int .i64 ((headS ((fRead d0).1)).1.2.1), .slice cs_A (cs.length) (cs_c)] 24 (0, 0))), (103, m3), (102, mone g1 (.cells #[.int .i64 (0), .int .i64 (0), .slice none (0) (0)] 24 (0, 0))), (0, wm W)] ?_
   refine VO.k21 0 2 3 4 5 6 7 8 9 10 11 12 13 14 22 31 33 34 35 45 53 (VC.ret (outR (outBR (outR (outR (outBR (outR ?_)))))))
   refine ⟨_, _, res_run (rs := [.cell 2 24, .tmp 3, .tmp 4]) rfl (.agg 102 rfl tk24 rfl ⟨_, _, _, mone_self _ _, Nat.le_of_ble_eq_true rfl, rfl⟩ (.tmp rfl (.tmp rfl .nil))), fun W_ hI => out_of (l := []) hI [] rfl rfl (mle_refl _) (fun hS_ => ?_)⟩
   dsimp only [packV]
   have he0 : ((secRead d0).1 : Ty.Den TSection) = (0, 0, []) := by first | rfl | (exact fin0_section_ok)
   refine ⟨[Value.int .i64 (0), Value.int .i64 (0), Value.slice none (0) (0)], ?_, ?_⟩
   rotate_left
   · rw [he0]; exact (mkO_Section 0 0 [] (Seps.nilAt 0 hS_) (by simp only [inK]; (exact fin1_section_ok)) (by simp only [inK]; (exact fin1_section_ok)) (Ow.nil _ _))
   all_goals (first | rfl | (exact fin0_section_ok))
 refine VC.skip (outN ?_)
 refine VC.reg ?_
 refine VO.y rfl (.fa rfl tst24 rfl) (VO.y rfl (.ld1 109 rfl tk22 rfl (cellsAt_one rfl rfl)) (VO.y rfl (.ldA 121 rfl tk32 rfl (cellsAt_one rfl rfl)) ?_))
 refine VO.bsl (cs := [Value.int .i64 (((cDecode ((fRead (d0.drop ((at_).toNat))).1)).1).1), Value.int .i64 (((cDecode ((fRead (d0.drop ((at_).toNat))).1)).1).2.1), Value.slice q17_0_A2 ((((cDecode ((fRead (d0.drop ((at_).toNat))).1)).1).2.2).length) (q17_0_c2)]) 124 rfl rfl tsl22 tz32 rfl rfl (fun g23 => ?_)
 refine VO.appO (e := TCommit) 111 119 124 rfl rfl rfl tsl22 tz32 rfl rfl rfl rfl h_cs (show Ow TCommit _ _ ((cDecode ((fRead (d0.drop ((at_).toNat))).1)).1) from (mkO_Commit (((cDecode ((fRead (d0.drop ((at_).toNat))).1)).1).1) (((cDecode ((fRead (d0.drop ((at_).toNat))).1)).1).2.1) (((cDecode ((fRead (d0.drop ((at_).toNat))).1)).1).2.2) (Seps.one (mle_refl _)) (by simp only [inK]; (exact fin1_section_ok)) (by simp only [inK]; (exact fin1_section_ok)) (OwnL.ow (Ow.ownl q17_0_2 rfl mnil) rfl))) Try.underlying22 (cellsAt_one rfl rfl) (by simp only [maxLen]; (exact fin1_section_ok)) (by exact fin1_section_ok) (by decide) (fun v25 m25 ho25 => ?_)
 obtain ⟨A25, c25, rfl, l25, k25⟩ := ho25.slice
 simp only [maxLen] at k25
 refine VO.mv (VO.mv ?_)
 refine VO.y rfl (.add rfl rfl rfl ⟨by exact fin1_section_ok, by exact fin1_section_ok⟩) ?_
 refine VO.y rfl (.fa rfl tst24 rfl) ?_
 refine VO.store (k := 1) (c' := [Value.int .i64 ((headS ((fRead d0).1)).1.1), Value.int .i64 ((headS ((fRead d0).1)).1.2.1), Value.slice A25 ((cs ++ [((cDecode ((fRead (d0.drop ((at_).toNat))).1)).1)]).length) (c25)]) 109 rfl rfl (.inr ⟨tk22, rfl⟩) rfl rfl rfl rfl rfl ?_
 refine VO.as ?_
 refine VO.kp [111, 121, 114, 109, 103, 102, 0] [(111, m25), (121, mone g20 (.cells #[.int .i64 (((cDecode ((fRead (d0.drop ((at_).toNat))).1)).1).1), .int .i64 (((cDecode ((fRead (d0.drop ((at_).toNat))).1)).1).2.1), .slice q17_0_A2 ((((cDecode ((fRead (d0.drop ((at_).toNat))).1)).1).2.2).length) (q17_0_c2)] 32 (0, 0))), (114, m14), (109, mone g8 (.cells #[.int .i64 ((headS ((fRead d0).1)).1.1), .int .i64 ((headS ((fRead d0).1)).1.2.1), .slice A25 ((cs ++ [((cDecode ((fRead (d0.drop ((at_).toNat))).1)).1)]).length) (c25)] 24 (0, 0))), (103, m3), (102, mone g1 (.cells #[.int .i64 (0), .int .i64 (0), .slice none (0) (0)] 24 (0, 0))), (0, wm W)] ?_
 refine VO.k19 0 2 5 6 7 8 9 10 11 12 13 14 22 31 33 34 35 45 53 (outBN (outN ?_))
 refine VC.reg ?_
 refine VO.y rfl (.add (c := ((j + 1 : Nat) : Int)) rfl rfl (by omega) ⟨by exact fin1_section_ok, by exact fin1_section_ok⟩) ?_
 refine VO.mv (VO.k19 0 2 5 6 7 8 9 10 11 12 13 14 22 31 33 34 35 45 53 ?_)
 exact outN ⟨⟨cs ++ [((cDecode ((fRead (d0.drop ((at_).toNat))).1)).1)], A25, c25, m25, at_ + ((fRead (d0.drop ((at_).toNat))).2.1), j + 1⟩, ⟨by (have h_ := com_next hp (by omega) (by assumption) (by assumption); rw [Nat.sub_sub] at h_; exact h_), by (have h_ := com_read d0 at_ ha0.1 ha0.2; dsimp only; omega), by (dsimp only; omega), by (simp only [List.length_append, List.length_cons, List.length_nil]; omega), ho25⟩, by first | omega | (simp only [List.length_append, List.length_cons, List.length_nil]; omega), ⟨⟨rfl, rfl, rfl, rfl, rfl, rfl, rfl, rfl, rfl, rfl, rfl, rfl, trivial⟩, fun _ h => Inv.sub h [111, 109, 103, 102, 0]⟩⟩
 · refine VC.exit (outE (outE (outBB (outN (VC.seq ?_)))))
   refine VC.regD _ 7 [(0, true), (1, true), (2, true), (3, false), (4, true), (5, false), (6, true)] follows (by kernel_rfl) (fun _ h => h.sub [111, 109, 103, 0]) ?_
   refine VD.y rfl rfl (.inl rfl) (.ldA 109 rfl tk24 rfl (cellsAt_one rfl rfl)) (VD.y rfl rfl (.inl rfl) (.mv rfl) (VD.y rfl rfl (.inl rfl) (.ldA 109 rfl tk24 rfl (cellsAt_one rfl rfl)) ?_))
   refine VD.callN 126 rfl rfl (.inl rfl) fnOk9 rfl (fun _ h => h.sub [111, 109, 103, 0]) (fun W hW => sectCheck_ok W (mk_Section (m := wm W) ((headS ((fRead d0).1)).1.1) ((headS ((fRead d0).1)).1.2.1) cs (by simp only [inK]; (exact fin1_section_ok)) (by simp only [inK]; (exact fin1_section_ok)) (Ow.rd h_cs (hW.at (i := 111) rfl)))) (fun v26 m26 hv26 => ?_)
   try dsimp only at hv26
   subst hv26
   have hfa27 := sectCheck_range ((headS ((fRead d0).1)).1.1, (headS ((fRead d0).1)).1.2.1, cs)
   refine VD.y rfl rfl (.inl rfl) (.eql rfl rfl) ?_
   refine VD.store (k := 3) (c' := [Value.int .i64 ((headS ((fRead d0).1)).1.1), Value.int .i64 ((headS ((fRead d0).1)).1.2.1), Value.slice cs_A (cs.length) (cs_c)]) 102 rfl rfl rfl (.inl tk24) rfl rfl rfl rfl rfl (fun _ h => h.sub [111, 109, 103, 0]) ?_
   refine VD.y rfl rfl (.inl rfl) (.as rfl) ?_
   refine VD.nil rfl ?_ rfl
   refine VO.as (VO.k15 0 2 3 4 5 6 7 8 9 10 22 31 33 34 35 (outN (VC.ret ?_)))
   refine ⟨_, _, res_run (rs := [.cell 2 24, .tmp 3, .tmp 4]) rfl (.agg 102 rfl tk24 rfl ⟨_, _, _, mone_self _ _, Nat.le_of_ble_eq_true rfl, rfl⟩ (.tmp rfl (.tmp rfl .nil))), fun W_ hI => out_of (l := [cs_m]) hI [111] rfl rfl (mle_refl _) (fun hS_ => ?_)⟩
   dsimp only [packV]
   have he0 : ((secRead d0).1 : Ty.Den TSection) = ((headS ((fRead d0).1)).1.1, (headS ((fRead d0).1)).1.2.1, cs) := by first | rfl | (exact fin0_section_ok)
   refine ⟨[Value.int .i64 ((headS ((fRead d0).1)).1.1), Value.int .i64 ((headS ((fRead d0).1)).1.2.1), Value.slice cs_A (cs.length) (cs_c)], ?_, ?_⟩
   rotate_left
   · rw [he0]; exact (mkO_Section ((headS ((fRead d0).1)).1.1) ((headS ((fRead d0).1)).1.2.1) cs hS_ (by simp only [inK]; (exact fin1_section_ok)) (by simp only [inK]; (exact fin1_section_ok)) h_cs)
   all_goals (first | rfl | (exact fin0_section_ok))
theorem oScan_ok (W : World) {v0 : Value} {d0 : List UInt8} (h0 : Rd (.sl .byte) (wm W) [v0] d0) (e0 : d0.length ≤ 1000000000000) : CallR Try.prog 18 [v0] W (mnil) (fun v m' => ∃ (s0 : Value), v = .tuple #[s0, .int .i64 ((scanF d0).2)] ∧ Ow (.sl TSection) m' [s0] ((scanF d0).1)) := by
 obtain ⟨A0, c0, rfl, l0, k0⟩ := h0.slice
 simp only [maxLen] at k0
 refine CallR.ofA (n := 37) Try.func18 rfl rfl rfl ?_
 refine VC.rs (VO.as (VO.as (VO.k3 0 2 3 (VC.rs (VO.as (VO.k4 0 2 3 4 (VC.rs (VO.as (VO.as ?_)))))))))
 refine VO.kp [0] [(0, wm W)] ?_
 refine VO.k6 0 2 3 4 5 6 (VC.block ?_)
 refine VC.inv ((101, mnil) :: _) (fun _ h => h.nilc 101) ?_
 refine VC.loop (G := (List DSection) × (Option Addr) × Nat × Mem × Int × Int × Nat) (fun g => [(4, .slice (g.2.1) ((g.1).length) ((g.2.2.1))), (5, .int .i64 ((g.2.2.2.2.1))), (6, .int .i64 ((g.2.2.2.2.2.1))), (0, .slice A0 (d0.length) (c0))]) (fun g => [(101, (g.2.2.2.1)), (0, wm W)]) (fun g => (scanF d0 = scanS (g.2.2.2.2.2.2) d0 (g.1) (g.2.2.2.2.1) (g.2.2.2.2.2.1)) ∧ (0 ≤ (g.2.2.2.2.1) ∧ (g.2.2.2.2.1) ≤ d0.length) ∧ ((d0.length : Int) - (g.2.2.2.2.1) ≤ (g.2.2.2.2.2.2)) ∧ (((g.1).length : Int) ≤ (g.2.2.2.2.1)) ∧ (Ow (.sl TSection) (g.2.2.2.1) [.slice (g.2.1) (g.1).length (g.2.2.1)] (g.1))) (fun g => ((d0.length : Int) - (g.2.2.2.2.1)).toNat) ([], none, 0, mnil, 0, 0, d0.length) (⟨by rfl, by (dsimp only; omega), by (dsimp only; omega), by simp, (Ow.nil TSection mnil)⟩) ⟨⟨rfl, rfl, rfl, rfl, trivial⟩, fun _ h => h.sub [101, 0]⟩ ?_
 rintro ⟨out, out_A, out_c, out_m, at_, ep, n⟩ ⟨hp, ha0, hn, hl, h_out⟩
 replace hp : scanF d0 = scanS n d0 out at_ ep := hp
 replace ha0 : 0 ≤ at_ ∧ at_ ≤ d0.length := ha0
 replace hn : (d0.length : Int) - at_ ≤ n := hn
 replace hl : (out.length : Int) ≤ at_ := hl
 replace h_out : Ow (.sl TSection) out_m [.slice out_A out.length out_c] out := h_out
 show VC _ _ _ _ _ [(4, .slice out_A (out.length) (out_c)), (5, .int .i64 (at_)), (6, .int .i64 (ep)), (0, .slice A0 (d0.length) (c0))] [(101, out_m), (0, wm W)]
 have l_out : out.length ≤ out_c := by obtain ⟨_, _, he, hl, _⟩ := h_out.slice; simp only [Value.slice.injEq] at he; omega
 have k_out : out_c ≤ 9223372036854775807 := by obtain ⟨_, _, he, _, hl⟩ := h_out.slice; simp only [Value.slice.injEq, maxLen] at he hl; omega
 refine VC.block (VC.rs (VO.mv (VO.mv ?_)))
 obtain ⟨A2, hA2, hs2⟩ := h0.drop 1 ((at_).toNat) rfl bd
 refine VO.y rfl (.slLI ((at_).toNat) A2 rfl rfl tsl25 bd hA2 bd) ?_
 refine VO.callN 103 rfl fnOk60 rfl (fun W hW => section_ok W (Rd.mono hs2 (hW.at (i := 0) rfl))) (fun v3 m3 hv3 => ?_)
 obtain ⟨s3_0, rfl, f3_0⟩ := hv3
 have hfa4 := secRead_bounds (d0.drop ((at_).toNat))
 obtain ⟨q3_0_A2, q3_0_c2, q3_0_n2, rfl, q3_0_S, q3_0_0, q3_0_1, q3_0_2⟩ := openO_Section (x0 := ((secRead (d0.drop ((at_).toNat))).1).1) (x1 := ((secRead (d0.drop ((at_).toNat))).1).2.1) (x2 := ((secRead (d0.drop ((at_).toNat))).1).2.2) f3_0
 simp only [inK] at q3_0_0 q3_0_1
 have q3_0_r2 := q3_0_2.rm
 refine VO.inv _ (fun _ h => h.parts (i := 103) rfl q3_0_S [105]) ?_
 refine VO.mv (VO.y rfl (.ext rfl rfl) (VO.y rfl (.ext rfl rfl) (VO.y rfl (.ext rfl rfl) ?_)))
 refine VO.alloc 107 rfl tz24 (fun g6 => ?_)
 refine VO.store (k := 3) (c' := [Value.int .i64 (((secRead (d0.drop ((at_).toNat))).1).1), Value.int .i64 (((secRead (d0.drop ((at_).toNat))).1).2.1), Value.slice q3_0_A2 ((((secRead (d0.drop ((at_).toNat))).1).2.2).length) (q3_0_c2)]) 107 rfl rfl (.inl tk24) rfl rfl rfl rfl rfl ?_
 refine VO.as (VO.as (VO.k7 0 4 5 6 7 8 9 (VC.seq (VC.rs (VO.mv (VO.y rfl (.not rfl) (VO.mv ?_)))))))
 refine VO.decBN (t := 20) rfl (fun hc8 => ?_) (fun hc8 => ?_)
 · refine VO.gN (VO.gN (VO.gN (VO.gN (VO.y rfl (.pT rfl rfl) (VO.k8 0 4 5 6 7 8 9 25 (VC.condT rfl (VC.rs (VO.mv (VO.mv (VO.as (VO.as ?_)))))))))))
   refine VO.kp [107, 105, 101, 0] [(107, mone g6 (.cells #[.int .i64 (((secRead (d0.drop ((at_).toNat))).1).1), .int .i64 (((secRead (d0.drop ((at_).toNat))).1).2.1), .slice q3_0_A2 ((((secRead (d0.drop ((at_).toNat))).1).2.2).length) (q3_0_c2)] 24 (0, 0))), (105, q3_0_n2), (101, out_m), (0, wm W)] ?_
   refine VO.k10 0 2 3 4 5 6 7 8 9 25 (VC.ret (outR (outBR (outR (outBR ?_)))))
   refine ⟨_, _, res_run (rs := [.tmp 2, .tmp 3]) rfl (.tmp rfl (.tmp rfl .nil)), fun W_ hI => out_of (l := [out_m]) hI [101] rfl rfl (mle_refl _) (fun hS_ => ?_)⟩
   dsimp only [packV]
   have he0 : ((scanF d0).1 : Ty.Den (.sl TSection)) = out := by first | rfl | (first | (rw [show scanF d0 = _ from scan_end hp (.inl (by first | assumption | simpa using ‹_›))]; done) | (rw [show scanF d0 = _ from scan_end hp (.inr (by omega))]; done))
   refine ⟨Value.slice out_A (out.length) (out_c), ?_, ?_⟩
   rotate_left
   · rw [he0]; exact (Ow.up h_out (hS_.1 _ (.head _)))
   all_goals (first | rfl | (first | (rw [show scanF d0 = _ from scan_end hp (.inl (by first | assumption | simpa using ‹_›))]; done) | (rw [show scanF d0 = _ from scan_end hp (.inr (by omega))]; done)))
 refine VO.gy rfl ⟨_, rfl, rfl⟩ (.fa rfl tst24 rfl) ?_
 refine VO.gy rfl ⟨_, rfl, rfl⟩ (.ld1 107 rfl tk3 rfl (cellsAt_one rfl rfl)) ?_
 refine VO.gy rfl ⟨_, rfl, rfl⟩ (.mv rfl) (VO.gy rfl ⟨_, rfl, rfl⟩ (.leq rfl rfl) (VO.y rfl (.pF rfl rfl) (VO.k8 0 4 5 6 7 8 9 25 ?_)))
 refine VC.cond rfl (fun hc9 => ?_) (fun hc9 => ?_)
 · refine VC.rs (VO.mv (VO.mv (VO.as (VO.as ?_))))
   refine VO.kp [107, 105, 101, 0] [(107, mone g6 (.cells #[.int .i64 (((secRead (d0.drop ((at_).toNat))).1).1), .int .i64 (((secRead (d0.drop ((at_).toNat))).1).2.1), .slice q3_0_A2 ((((secRead (d0.drop ((at_).toNat))).1).2.2).length) (q3_0_c2)] 24 (0, 0))), (105, q3_0_n2), (101, out_m), (0, wm W)] ?_
   refine VO.k10 0 2 3 4 5 6 7 8 9 25 (VC.ret (outR (outBR (outR (outBR ?_)))))
   refine ⟨_, _, res_run (rs := [.tmp 2, .tmp 3]) rfl (.tmp rfl (.tmp rfl .nil)), fun W_ hI => out_of (l := [out_m]) hI [101] rfl rfl (mle_refl _) (fun hS_ => ?_)⟩
   dsimp only [packV]
   have he0 : ((scanF d0).1 : Ty.Den (.sl TSection)) = out := by first | rfl | (first | (rw [show scanF d0 = _ from scan_end hp (.inl (by first | assumption | simpa using ‹_›))]; done) | (rw [show scanF d0 = _ from scan_end hp (.inr (by omega))]; done))
   refine ⟨Value.slice out_A (out.length) (out_c), ?_, ?_⟩
   rotate_left
   · rw [he0]; exact (Ow.up h_out (hS_.1 _ (.head _)))
   all_goals (first | rfl | (first | (rw [show scanF d0 = _ from scan_end hp (.inl (by first | assumption | simpa using ‹_›))]; done) | (rw [show scanF d0 = _ from scan_end hp (.inr (by omega))]; done)))
 refine VC.skip (outN ?_)
 refine VC.regD _ 11 [(0, true), (1, true), (4, true), (5, true), (6, true), (7, true), (8, true), (2, false), (3, false), (9, true), (10, true)] follows (by kernel_rfl) (fun _ h => h.sub [107, 0]) ?_
 refine VD.y rfl rfl (.inl rfl) (.mv rfl) (VD.y rfl rfl (.inl rfl) (.ldA 107 rfl tk24 rfl (cellsAt_one rfl rfl)) (VD.y rfl rfl (.inl rfl) (.mv rfl) (VD.y rfl rfl (.inl rfl) (.mv rfl) ?_)))
 refine VD.y rfl rfl (.inl rfl) (.add rfl rfl rfl ⟨bd, bd⟩) ?_
 refine VD.y rfl rfl (.inl rfl) (.fa rfl tst24 rfl) (VD.y rfl rfl (.inl rfl) (.ld1 107 rfl tk3 rfl (cellsAt_one rfl rfl)) ?_)
 refine VD.bsl (cs := [Value.int .i64 (((secRead (d0.drop ((at_).toNat))).1).1), Value.int .i64 (((secRead (d0.drop ((at_).toNat))).1).2.1), Value.slice q3_0_A2 ((((secRead (d0.drop ((at_).toNat))).1).2.2).length) (q3_0_c2)]) 111 rfl rfl rfl tsl41 tz24 rfl rfl (fun _ h => h.sub [107, 0]) (fun g10 => ?_)
 refine VD.appO (e := TSection) 101 105 111 rfl rfl rfl rfl tsl41 tz24 rfl rfl rfl rfl h_out (show Ow TSection _ _ ((secRead (d0.drop ((at_).toNat))).1) from (mkO_Section (((secRead (d0.drop ((at_).toNat))).1).1) (((secRead (d0.drop ((at_).toNat))).1).2.1) (((secRead (d0.drop ((at_).toNat))).1).2.2) (Seps.one (mle_refl _)) bdk bdk q3_0_2)) Try.underlying41 (cellsAt_one rfl rfl) bdm bd (by decide) (fun _ _ h => h.sub [107, 0]) (fun v12 m12 ho12 => ?_)
 obtain ⟨A12, c12, rfl, l12, k12⟩ := ho12.slice
 simp only [maxLen] at k12
 refine VD.y rfl rfl (.inl rfl) (.as rfl) (VD.y rfl rfl (.inl rfl) (.as rfl) ?_)
 refine VD.nil rfl ?_ rfl
 refine VO.as ?_
 refine VO.kp [101, 107, 0] [(101, m12), (107, mone g6 (.cells #[.int .i64 (((secRead (d0.drop ((at_).toNat))).1).1), .int .i64 (((secRead (d0.drop ((at_).toNat))).1).2.1), .slice q3_0_A2 ((((secRead (d0.drop ((at_).toNat))).1).2.2).length) (q3_0_c2)] 24 (0, 0))), (0, wm W)] ?_
 refine VO.k8 0 4 5 6 7 8 9 25 (outBN ?_)
 exact outN ⟨⟨out ++ [((secRead (d0.drop ((at_).toNat))).1)], A12, c12, m12, at_ + ((secRead (d0.drop ((at_).toNat))).2.1), ((secRead (d0.drop ((at_).toNat))).1).1, n - 1⟩, ⟨by exact scan_next hp ha0.1 hn (by simp [*]) (by omega), by (have h_ := sec_at d0 ha0.1 ha0.2; dsimp only; omega), by (have h_ := (secRead_bounds (d0.drop at_.toNat)).2.2.1 (by simp [*]); dsimp only; omega), by (have h_ := (secRead_bounds (d0.drop at_.toNat)).2.2.1 (by simp [*]); simp only [List.length_append, List.length_cons, List.length_nil]; omega), ho12⟩, by (have h_ := (secRead_bounds (d0.drop at_.toNat)).2.2.1 (by simp [*]); have h2_ := sec_at d0 ha0.1 ha0.2; dsimp only; omega), ⟨⟨rfl, rfl, rfl, rfl, trivial⟩, fun _ h => Inv.sub h [101, 0]⟩⟩
end
section
set_option linter.unusedVariables false
def leQ (p q : Dur) : Prop := ∀ f : Int, inF f → getF p f <+: getF q f
theorem leQ.trans {p q r : Dur} (h : leQ p q) (h' : leQ q r) : leQ p r := fun f hf => (h f hf).trans (h' f hf)
def begB (b a : Bytes) : Prop := a.length ≤ b.length ∧ b.take a.length = a
instance (b a : Bytes) : Decidable (begB b a) := by unfold begB; infer_instance
end
section
set_option linter.unusedVariables false
def curD (d : DDisk) : Dur := play d.2.2.2.2.2.1 d.2.2.2.2.2.2
theorem cur_burn (d : DDisk) : curD (burnD d).1 = curD d := by unfold curD; rw [(burn_same d).2]
theorem dur_burn (d : DDisk) : (burnD d).1.2.2.2.2.2.1 = d.2.2.2.2.2.1 := by rw [(burn_same d).2]
theorem made_burn (d : DDisk) : (burnD d).1.1 = d.1 := (burn_same d).1
structure Pg (d : DDisk) (A S : Dur) : Prop where
  ok : okD d
  made : d.1 = true
  all : ∀ s ∈ d.2.2.2.2.2.2, s.1 = 0 ∧ inF s.2.1
  dur : d.2.2.2.2.2.1 = S
  ends : curD d = A
section
variable {d : DDisk} {A S : Dur} {f n k t : Int} {b : Bytes}
theorem Pg.right (h : Pg d A S) (ho : d.2.1 = false) : wrongD d = 0 := by unfold wrongD; rw [if_neg (by rw [h.made]; decide), if_neg (by rw [ho]; decide)]
theorem Pg.burn (h : Pg d A S) : Pg (burnD d).1 A S := ⟨burn_ok h.ok, by rw [made_burn]; exact h.made, by rw [(burn_same d).2]; exact h.all, by rw [dur_burn]; exact h.dur, by rw [cur_burn]; exact h.ends⟩
end
end
section
set_option linter.unusedVariables false
section
variable {D : DDisk} {x f : Int} {b : Bytes}
theorem chain_write (h : okD D) (hn : nf D) : toR (dWrite (fromR (toR D x)) f b).1 (toR D x).2.2.2.2.2.1 = toR (dWrite D f b).1 x ∧ (dWrite (fromR (toR D x)) f b).2 = (dWrite D f b).2 := by
  rw [from_to h hn]; exact ⟨toR_left write_fused, rfl⟩
theorem chain_sync (h : okD D) (hn : nf D) : toR (dSync (fromR (toR D x))).1 (toR D x).2.2.2.2.2.1 = toR (dSync D).1 x ∧ (dSync (fromR (toR D x))).2 = (dSync D).2 := by
  rw [from_to h hn]; exact ⟨toR_left sync_fused, rfl⟩
end
section
variable {r r1 r2 : DRDisk} {base : Int} {s : DSection}
theorem r_right (h1 : ¬ r.1 = false) (h2 : r.2.2.2.1 = true) : wrongD (fromR r) = 0 := by
  unfold wrongD fromR
  dsimp only
  rw [if_neg h1, h2]; rfl
theorem r_off (h1 : ¬ r.1 = false) (h2 : r.2.2.2.1 = false) : wrongD (fromR r) = 6 := by
  unfold wrongD fromR
  dsimp only
  rw [if_neg h1, h2]; rfl
theorem r_none (h1 : r.1 = false) : wrongD (fromR r) = 1 := if_pos h1
theorem row_bad1 (h1 : r.1 = false) : orphW (fromR r) base s = (fromR r, 1) := by
  unfold orphW; rw [r_none h1, if_pos (by decide)]
theorem row_bad2 (h1 : ¬ r.1 = false) (h2 : r.2.2.2.1 = false) : orphW (fromR r) base s = (fromR r, 6) := by
  unfold orphW; rw [r_off h1 h2, if_pos (by decide)]
theorem row_bad3 (h1 : ¬ r.1 = false) (h2 : r.2.2.2.1 = true) (h3 : ¬ (sectEncode s).2 = 0) : orphW (fromR r) base s = (fromR r, (sectEncode s).2) := by
  rw [enc_err] at h3 ⊢
  unfold orphW; rw [if_neg (by rw [r_right h1 h2]; decide), if_pos h3]
theorem row_bad4 (h1 : ¬ r.1 = false) (h2 : r.2.2.2.1 = true) (h3 : ¬ ¬ (sectEncode s).2 = 0) (h4 : base < 0 ∨ ((heldB r.2.1 (r.2.2.1.map stepOf) 3).length : Int) < base) : orphW (fromR r) base s = (fromR r, 2) := by
  rw [enc_err] at h3
  unfold orphW; rw [if_neg (by rw [r_right h1 h2]; decide), if_neg h3]; exact if_pos h4
theorem row_go (h1 : ¬ r.1 = false) (h2 : r.2.2.2.1 = true) (h3 : ¬ ¬ (sectEncode s).2 = 0) (h4 : ¬ base < 0) (h5 : ¬ ((heldB r.2.1 (r.2.2.1.map stepOf) 3).length : Int) < base) :
    orphW (fromR r) base s = if ¬ (trimD (fromR r) 3 base).2 = 0 then trimD (fromR r) 3 base else putD (trimD (fromR r) 3 base).1 3 (sectEncode s).1 := by
  have he := enc_is h3
  rw [enc_err] at h3
  unfold orphW; rw [if_neg (by rw [r_right h1 h2]; decide), if_neg h3, if_neg (fun q => q.elim h4 h5), he]
theorem row_trim1 (h6 : base < ((heldB r.2.1 (r.2.2.1.map stepOf) 3).length : Int)) : trimD (fromR r) 3 base = dCut (fromR r) 3 base := if_pos h6
theorem row_trim2 (h6 : ¬ base < ((heldB r.2.1 (r.2.2.1.map stepOf) 3).length : Int)) : trimD (fromR r) 3 base = (fromR r, 0) := if_neg h6
theorem row_cutbad (h1 : ¬ r.1 = false) (h2 : r.2.2.2.1 = true) (h3 : ¬ ¬ (sectEncode s).2 = 0) (h4 : ¬ base < 0) (h5 : ¬ ((heldB r.2.1 (r.2.2.1.map stepOf) 3).length : Int) < base) (h6 : base < ((heldB r.2.1 (r.2.2.1.map stepOf) 3).length : Int)) (h7 : ¬ (dCut (fromR r) 3 base).2 = 0) :
    orphW (fromR r) base s = ((dCut (fromR r) 3 base).1, 6) := by
  rw [row_go h1 h2 h3 h4 h5, row_trim1 h6, if_pos h7]
  have := cut_err (d := fromR r) (f := 3) (n := base) (r_right h1 h2) (by decide) (by omega) (by show base ≤ ((heldB r.2.1 (r.2.2.1.map stepOf) 3).length : Int); omega)
  exact Prod.ext rfl (this.resolve_left h7)
theorem putD_bad {d : DDisk} {b : Bytes} (h : ¬ (dWrite d 3 b).2 = 0) (hw : wrongD d = 0) : putD d 3 b = ((dWrite d 3 b).1, 6) := by
  unfold putD; rw [if_pos h]; exact Prod.ext rfl ((write_err hw (by decide)).resolve_left h)
theorem putD_bad2 {d : DDisk} {b : Bytes} (h : ¬ ¬ (dWrite d 3 b).2 = 0) (hw : wrongD d = 0) (h2 : ¬ (dSync (dWrite d 3 b).1).2 = 0) : putD d 3 b = ((dSync (dWrite d 3 b).1).1, 6) := by
  unfold putD; rw [if_neg h]
  refine Prod.ext rfl ((sync_err ?_).resolve_left h2)
  rw [write_wrong hw (by decide)]; exact Decidable.not_not.1 h
theorem putD_good {d : DDisk} {b : Bytes} (h : ¬ ¬ (dWrite d 3 b).2 = 0) (h2 : ¬ ¬ (dSync (dWrite d 3 b).1).2 = 0) : putD d 3 b = ((dSync (dWrite d 3 b).1).1, 0) := by
  unfold putD; rw [if_neg h]; exact Prod.ext rfl (Decidable.not_not.1 h2)
theorem row_put {D : DDisk} {x : Int} {b : Bytes} (hD : okD D) (hn : nf D) (hw : wrongD D = 0) (e1 : r1 = toR D x) :
    (¬ (dWrite (fromR r1) 3 b).2 = 0 → toR (putD D 3 b).1 x = toR (dWrite (fromR r1) 3 b).1 r1.2.2.2.2.2.1 ∧ (putD D 3 b).2 = 6) ∧
    (∀ r2, r2 = toR (dWrite (fromR r1) 3 b).1 r1.2.2.2.2.2.1 → ¬ ¬ (dWrite (fromR r1) 3 b).2 = 0 →
      (toR (putD D 3 b).1 x = toR (dSync (fromR r2)).1 r2.2.2.2.2.2.1) ∧ (¬ (dSync (fromR r2)).2 = 0 → (putD D 3 b).2 = 6) ∧ (¬ ¬ (dSync (fromR r2)).2 = 0 → (putD D 3 b).2 = 0)) := by
  subst e1
  obtain ⟨c1, c2⟩ := chain_write (f := 3) (b := b) (x := x) hD hn
  rw [c1, c2]
  refine ⟨fun h => ?_, fun r2 e2 h => ?_⟩
  · rw [putD_bad h hw]; exact ⟨rfl, rfl⟩
  · subst e2
    obtain ⟨s1, s2⟩ := chain_sync (x := x) (write_ok (f := 3) (b := b) hD) (nf_write (f := 3) (b := b) hn)
    rw [s1, s2]
    by_cases h2 : (dSync (dWrite D 3 b).1).2 = 0
    · rw [putD_good h (fun q => q h2)]; exact ⟨rfl, fun q => absurd h2 q, fun _ => rfl⟩
    · rw [putD_bad2 h hw h2]; exact ⟨rfl, fun _ => rfl, fun q => absurd h2 q⟩
theorem row_cut (h0 : okD (fromR r)) (h1 : ¬ r.1 = false) (h2 : r.2.2.2.1 = true) (h3 : ¬ ¬ (sectEncode s).2 = 0) (h4 : ¬ base < 0) (h5 : ¬ ((heldB r.2.1 (r.2.2.1.map stepOf) 3).length : Int) < base) (h6 : base < ((heldB r.2.1 (r.2.2.1.map stepOf) 3).length : Int)) (h7 : ¬ ¬ (dCut (fromR r) 3 base).2 = 0)
    (e1 : r1 = toR (dCut (fromR r) 3 base).1 r.2.2.2.2.2.1) :
    (¬ (dWrite (fromR r1) 3 (sectEncode s).1).2 = 0 → toR (orphW (fromR r) base s).1 r.2.2.2.2.2.1 = toR (dWrite (fromR r1) 3 (sectEncode s).1).1 r1.2.2.2.2.2.1 ∧ (orphW (fromR r) base s).2 = 6) ∧
    (∀ r2, r2 = toR (dWrite (fromR r1) 3 (sectEncode s).1).1 r1.2.2.2.2.2.1 → ¬ ¬ (dWrite (fromR r1) 3 (sectEncode s).1).2 = 0 →
      (toR (orphW (fromR r) base s).1 r.2.2.2.2.2.1 = toR (dSync (fromR r2)).1 r2.2.2.2.2.2.1) ∧ (¬ (dSync (fromR r2)).2 = 0 → (orphW (fromR r) base s).2 = 6) ∧ (¬ ¬ (dSync (fromR r2)).2 = 0 → (orphW (fromR r) base s).2 = 0)) := by
  rw [row_go h1 h2 h3 h4 h5, row_trim1 h6, if_neg h7]
  have hw : wrongD (dCut (fromR r) 3 base).1 = 0 := by
    rw [cut_wrong (r_right h1 h2) (by decide) (by omega) (by show base ≤ ((heldB r.2.1 (r.2.2.1.map stepOf) 3).length : Int); omega)]
    exact Decidable.not_not.1 h7
  exact row_put (cut_ok h0) (nf_cut (nf_from r)) hw e1
theorem row_nocut (h0 : okD (fromR r)) (h1 : ¬ r.1 = false) (h2 : r.2.2.2.1 = true) (h3 : ¬ ¬ (sectEncode s).2 = 0) (h4 : ¬ base < 0) (h5 : ¬ ((heldB r.2.1 (r.2.2.1.map stepOf) 3).length : Int) < base) (h6 : ¬ base < ((heldB r.2.1 (r.2.2.1.map stepOf) 3).length : Int)) :
    (¬ (dWrite (fromR r) 3 (sectEncode s).1).2 = 0 → toR (orphW (fromR r) base s).1 r.2.2.2.2.2.1 = toR (dWrite (fromR r) 3 (sectEncode s).1).1 r.2.2.2.2.2.1 ∧ (orphW (fromR r) base s).2 = 6) ∧
    (∀ r2, r2 = toR (dWrite (fromR r) 3 (sectEncode s).1).1 r.2.2.2.2.2.1 → ¬ ¬ (dWrite (fromR r) 3 (sectEncode s).1).2 = 0 →
      (toR (orphW (fromR r) base s).1 r.2.2.2.2.2.1 = toR (dSync (fromR r2)).1 r2.2.2.2.2.2.1) ∧ (¬ (dSync (fromR r2)).2 = 0 → (orphW (fromR r) base s).2 = 6) ∧ (¬ ¬ (dSync (fromR r2)).2 = 0 → (orphW (fromR r) base s).2 = 0)) := by
  rw [row_go h1 h2 h3 h4 h5, row_trim2 h6, if_neg (fun q => q rfl)]
  exact row_put h0 (nf_from r) (r_right h1 h2) (to_from r).symm
end
def Tw (d : DDisk) (r : DRDisk) : Prop := okD d ∧ fromR r = d
theorem Tw.keep {d d' : DDisk} {r : DRDisk} {x : Int} (h : Tw d r) (hk : okD d') (hn : nf d') : Tw d' (toR d' x) := ⟨hk, from_to hk hn⟩
theorem Tw.nf {d : DDisk} {r : DRDisk} (h : Tw d r) : nf d := by rw [← h.2]; exact nf_from r
section
variable {d : DDisk} {r : DRDisk} (h : Tw d r)
include h
theorem Tw.write {f : Int} {b : Bytes} : Tw (dWrite d f b).1 (toR (dWrite (fromR r) f b).1 r.2.2.2.2.2.1) ∧ (dWrite (fromR r) f b).2 = (dWrite d f b).2 := by rw [h.2]; exact ⟨h.keep (write_ok h.1) (nf_write h.nf), rfl⟩
theorem Tw.sync : Tw (dSync d).1 (toR (dSync (fromR r)).1 r.2.2.2.2.2.1) ∧ (dSync (fromR r)).2 = (dSync d).2 := by rw [h.2]; exact ⟨h.keep (sync_ok h.1) (nf_sync h.nf), rfl⟩
theorem Tw.fuse {n : Int} : Tw (dFuse d n).1 (toR (dFuse (fromR r) n).1 r.2.2.2.2.2.1) ∧ (dFuse (fromR r) n).2 = (dFuse d n).2 := by rw [h.2]; exact ⟨h.keep (fuse_ok h.1) (nf_fuse h.nf), rfl⟩
theorem Tw.pull : Tw (dPull d).1 (toR (dPull (fromR r)).1 r.2.2.2.2.2.1) ∧ (dPull (fromR r)).2 = (dPull d).2 := by rw [h.2]; exact ⟨h.keep (pull_ok h.1) (nf_pull h.nf), rfl⟩
theorem Tw.start {k t : Int} : Tw (dStart d k t).1 (toR (dStart (fromR r) k t).1 r.2.2.2.2.2.1) ∧ (dStart (fromR r) k t).2 = (dStart d k t).2 := by rw [h.2]; exact ⟨h.keep (start_ok h.1) (nf_start h.nf), rfl⟩
theorem Tw.orph {b : Int} {s : DSection} : Tw (orphW d b s).1 (toR (orphW (fromR r) b s).1 r.2.2.2.2.2.1) ∧ (orphW (fromR r) b s).2 = (orphW d b s).2 := by rw [h.2]; exact ⟨h.keep (orphW_ok h.1) (nf_orphW h.nf), rfl⟩
end
theorem tw_new : Tw newD newR := ⟨okD_new, from_newR⟩
theorem ro_orphW {r : DRDisk} {b : Int} {s : DSection} (h : okR r) : okR (toR (orphW (fromR r) b s).1 r.2.2.2.2.2.1) := okR_to (orphW_ok h) (nf_orphW (nf_from r))
theorem rw_orphW {r : DRDisk} {b : Int} {s : DSection} (h : okR r) : wD (fromR (toR (orphW (fromR r) b s).1 r.2.2.2.2.2.1)) ≤ wD (fromR r) + 3 * (sectEncode s).1.length + 4 := by rw [from_to (orphW_ok h) (nf_orphW (nf_from r))]; exact orphW_w h
end
section
set_option linter.unusedVariables false
def riseS : Int → List DSection → Prop
  | _, [] => True
  | ep, s :: l => sectCheck s = 0 ∧ ep < s.1 ∧ riseS s.1 l
def sectEncs (l : List DSection) : Bytes := (l.map sectEnc).flatten
theorem sectEncs_cons (s : DSection) (l : List DSection) : sectEncs (s :: l) = sectEnc s ++ sectEncs l := rfl
theorem scan_rise : ∀ {l : List DSection} {B r : Bytes} {out : List DSection} {a k : Nat} {ep : Int}, riseS ep l → B.drop a = sectEncs l ++ r → B.length - a ≤ k → (secRead r).2.2 = false → scanS k B out (a : Int) ep = (out ++ l, ((a + (sectEncs l).length : Nat) : Int))
  | [], B, r, out, a, k, ep, _, hd, hk, hr => by
    have hd' : B.drop (a : Int).toNat = r := by rw [Int.toNat_natCast, hd]; rfl
    rw [scan_end rfl (.inl (by rw [hd']; exact hr))]
    simp [sectEncs]
  | s :: l, B, r, out, a, k, ep, h, hd, hk, hr => by
    obtain ⟨h1, h2, h3⟩ := h
    rw [sectEncs_cons, List.append_assoc] at hd
    have hd' : secRead (B.drop (a : Int).toNat) = (s, ((sectEnc s).length : Int), true) := by rw [Int.toNat_natCast, hd]; exact secRead_there h1 _
    have hl := congrArg List.length hd
    have hp := (sectEnc_len h1).2.2
    simp only [List.length_drop, List.length_append] at hl
    rw [scan_next rfl (Int.natCast_nonneg _) (by omega) (by rw [hd']; simp) (by rw [hd']; dsimp only; omega), hd']
    dsimp only
    have hn : B.drop (a + (sectEnc s).length) = sectEncs l ++ r := by rw [← List.drop_drop, hd, List.drop_left]
    rw [← Int.natCast_add, scan_rise h3 hn (by omega) hr, sectEncs_cons]
    simp [Nat.add_assoc]
theorem scan_whole {l : List DSection} {r : Bytes} (h : riseS 0 l) (hr : (secRead r).2.2 = false) : scanF (sectEncs l ++ r) = (l, ((sectEncs l).length : Int)) := by
  have := scan_rise (B := sectEncs l ++ r) (out := []) (a := 0) (k := (sectEncs l ++ r).length) h rfl (by simp) hr
  unfold scanF
  rw [show ((0 : Nat) : Int) = 0 from rfl] at this
  rw [this]; simp
theorem sec_nil : (secRead []).2.2 = false := by
  have h := fRead_bounds []
  have : ¬ (fRead []).2.2 = 0 := fun q => by have h1 := h.2.2.2.2.1 q; have h2 := h.2.1; simp only [List.length_nil] at h2; omega
  rw [sec_no1 this]
def smallS (s : DSection) : Prop := (∀ c ∈ s.2.2, c.2.2.length ≤ 40) ∧ s.2.2.length ≤ 40
instance (s : DSection) : Decidable (smallS s) := by unfold smallS; infer_instance
end
section
set_option linter.unusedVariables false
set_option linter.unusedSimpArgs false
set_option maxRecDepth 4000
theorem fnOk16 : fnOk Try.prog 16 = true := by kernel_rfl
theorem fnOk17 : fnOk Try.prog 17 = true := by kernel_rfl
theorem fnOk18 : fnOk Try.prog 18 = true := by kernel_rfl
theorem fnOk35 : fnOk Try.prog 35 = true := by kernel_rfl
theorem fnOk36 : fnOk Try.prog 36 = true := by kernel_rfl
theorem fnOk37 : fnOk Try.prog 37 = true := by kernel_rfl
theorem fnOk38 : fnOk Try.prog 38 = true := by kernel_rfl
theorem fnOk71 : fnOk Try.prog 71 = true := by kernel_rfl
theorem fnOk72 : fnOk Try.prog 72 = true := by kernel_rfl
theorem fnOk82 : fnOk Try.prog 82 = true := by kernel_rfl
theorem fnOk63 : fnOk Try.prog 63 = true := by kernel_rfl
theorem SameSections_ok (W : World) {v0 : Value} {d0 : List DSection} (h0 : Rd (.sl TSection) (wm W) [v0] d0) {v1 : Value} {d1 : List DSection} (h1 : Rd (.sl TSection) (wm W) [v1] d1) : CallR Try.prog 22 [v0, v1] W (mnil) (fun v m' => v = .bool (decide (d0 = d1))) := by
 obtain ⟨A0, c0, rfl, l0, k0⟩ := h0.slice
 simp only [maxLen] at k0
 obtain ⟨A1, c1, rfl, l1, k1⟩ := h1.slice
 simp only [maxLen] at k1
 refine CallR.ofA (n := 55) Try.func22 rfl rfl rfl ?_
 refine VC.rs (VO.as (VO.k3 0 1 4 (VC.seq (VC.rs (VO.mv ?_)))))
 refine VO.y rfl (.lenS rfl tsl41) ?_
 refine VO.mv ?_
 refine VO.y rfl (.lenS rfl tsl41) ?_
 refine VO.y rfl (.neq rfl rfl) (VO.k4 0 1 4 10 ?_)
 refine VC.cond rfl (fun hc1 => ?_) (fun hc1 => ?_)
 · refine VC.rs (VO.as ?_)
   refine VO.kp [0] [(0, wm W)] ?_
   refine VO.k4 0 1 4 10 (VC.ret (outR ?_))
   refine ⟨_, _, res_run (rs := [.tmp 4]) rfl (.tmp rfl .nil), fun W_ hI => out_of (l := []) hI [] rfl rfl (mle_refl _) (fun hS_ => ?_)⟩
   dsimp only [packV]
   all_goals (first | rfl | (simp [len_ne hc1]))
 refine VC.skip (outN (VC.seq (VC.rs (VO.as ?_))))
 refine VO.kp [0] [(0, wm W)] ?_
 refine VO.k5 0 1 4 5 10 (VC.block ?_)
 refine VC.loop (G := Nat) (fun k => [(5, .int .i64 (((k : Nat) : Int))), (0, .slice A0 (d0.length) (c0)), (1, .slice A1 (d1.length) (c1)), (10, .bool (decide (¬ ((d0.length : Nat) : Int) = ((d1.length : Nat) : Int))))]) (fun k => [(0, wm W)]) (fun k => (k ≤ d0.length) ∧ (d0.take k = d1.take k)) (fun k => d0.length - k) 0 (⟨by omega, by rfl⟩) ⟨⟨rfl, rfl, rfl, rfl, trivial⟩, fun _ h => h.sub [0]⟩ ?_
 rintro k ⟨hk, ht⟩
 refine VC.seq (VC.rs (VO.mv (VO.mv ?_)))
 refine VO.y rfl (.lenS rfl tsl41) ?_
 refine VO.y rfl (.lss rfl rfl) (VO.k5 0 1 5 10 14 ?_)
 refine VC.cond rfl (fun hc2 => ?_) (fun hc2 => ?_)
 refine VC.skip (outN (VC.seq (VC.block (VC.seq ?_))))
 refine VC.regD _ 35 [(0, true), (1, true), (2, true), (3, true), (4, true), (5, true), (6, true), (7, true), (8, true), (9, true), (10, true), (11, true), (12, true), (13, true), (14, true), (15, true), (16, true), (17, true), (18, true), (19, true), (20, true), (21, true), (22, true), (23, true), (24, true), (25, true), (26, true), (27, true), (28, true), (29, true), (30, true), (31, true), (32, true), (33, true), (34, true)] follows (by kernel_rfl) (fun _ h => h.sub [0]) ?_
 refine VD.y rfl rfl (.inl rfl) (.mv rfl) (VD.y rfl rfl (.inl rfl) (.mv rfl) ?_)
 obtain ⟨x3, hx3⟩ : ∃ z_, (d0)[k]? = some z_ := ⟨_, List.getElem?_eq_getElem bd⟩
 obtain ⟨gg3, oo3, ec3, ea3, hce3, hre3⟩ := h0.elem hx3
 cases ea3
 obtain ⟨q3_A2, q3_c2, rfl, q3_0, q3_1, q3_2⟩ := open_Section (x0 := x3.1) (x1 := x3.2.1) (x2 := x3.2.2) hre3
 simp only [inK] at q3_0 q3_1
 have q3_r2 := Rd.room q3_2
 refine VD.y rfl rfl (.inl rfl) (.ixI k rfl rfl tsl41 rfl bd) ?_
 refine VD.y rfl rfl (.inl rfl) (.fa rfl tst24 rfl) ?_
 refine VD.y rfl rfl (.inl rfl) (.ld1 0 rfl tk3 rfl (hce3.at1 (j := 0) rfl)) ?_
 refine VD.y rfl rfl (.inl rfl) (.mv rfl) (VD.y rfl rfl (.inl rfl) (.mv rfl) ?_)
 obtain ⟨x4, hx4⟩ : ∃ z_, (d1)[k]? = some z_ := ⟨_, List.getElem?_eq_getElem bd⟩
 obtain ⟨gg4, oo4, ec4, ea4, hce4, hre4⟩ := h1.elem hx4
 cases ea4
 obtain ⟨q4_A2, q4_c2, rfl, q4_0, q4_1, q4_2⟩ := open_Section (x0 := x4.1) (x1 := x4.2.1) (x2 := x4.2.2) hre4
 simp only [inK] at q4_0 q4_1
 have q4_r2 := Rd.room q4_2
 refine VD.y rfl rfl (.inl rfl) (.ixI k rfl rfl tsl41 rfl bd) ?_
 refine VD.y rfl rfl (.inl rfl) (.fa rfl tst24 rfl) ?_
 refine VD.y rfl rfl (.inl rfl) (.ld1 0 rfl tk3 rfl (hce4.at1 (j := 0) rfl)) ?_
 refine VD.y rfl rfl (.inl rfl) (.neq rfl rfl) (VD.y rfl rfl (.inl rfl) (.mv rfl) ?_)
 refine VD.dec (s := 28) rfl (fun hc5 => ?_) (fun hc5 => ?_)
 · refine VD.gn rfl rfl (.inl ⟨_, rfl, rfl⟩) ?_
   refine VD.gn rfl rfl (.inl ⟨_, rfl, rfl⟩) ?_
   refine VD.gn rfl rfl (.inl ⟨_, rfl, rfl⟩) ?_
   refine VD.gn rfl rfl (.inl ⟨_, rfl, rfl⟩) ?_
   refine VD.gn rfl rfl (.inl ⟨_, rfl, rfl⟩) ?_
   refine VD.gn rfl rfl (.inl ⟨_, rfl, rfl⟩) ?_
   refine VD.gn rfl rfl (.inl ⟨_, rfl, rfl⟩) ?_
   refine VD.gn rfl rfl (.inl ⟨_, rfl, rfl⟩) ?_
   refine VD.gn rfl rfl (.inl ⟨_, rfl, rfl⟩) ?_
   refine VD.gn rfl rfl (.inl ⟨_, rfl, rfl⟩) ?_
   refine VD.gn rfl rfl (.inl ⟨_, rfl, rfl⟩) ?_
   refine VD.y rfl rfl (.inl rfl) (.pT rfl rfl) (VD.y rfl rfl (.inl rfl) (.mv rfl) ?_)
   refine VD.gn rfl rfl (.inl ⟨_, rfl, rfl⟩) ?_
   refine VD.gn rfl rfl (.inl ⟨_, rfl, rfl⟩) ?_
   refine VD.gn rfl rfl (.inl ⟨_, rfl, rfl⟩) ?_
   refine VD.gn rfl rfl (.inl ⟨_, rfl, rfl⟩) ?_
   refine VD.gn rfl rfl (.inl ⟨_, rfl, rfl⟩) ?_
   refine VD.gn rfl rfl (.inl ⟨_, rfl, rfl⟩) ?_
   refine VD.gn rfl rfl (.inl ⟨_, rfl, rfl⟩) ?_
   refine VD.gn rfl rfl (.inl ⟨_, rfl, rfl⟩) ?_
   refine VD.gn rfl rfl (.inl ⟨_, rfl, rfl⟩) ?_
   refine VD.gn rfl rfl (.inl ⟨_, rfl, rfl⟩) ?_
   refine VD.nil rfl ?_ rfl
   refine VO.gN (VO.gN (VO.y rfl (.pT rfl rfl) (VO.k6 0 1 5 10 14 54 (outN (VC.condT rfl (VC.rs (VO.as ?_)))))))
   refine VO.kp [0] [(0, wm W)] ?_
   refine VO.k7 0 1 4 5 10 14 54 (VC.ret (outBR (outR (outR (outBR (outR ?_))))))
   refine ⟨_, _, res_run (rs := [.tmp 4]) rfl (.tmp rfl .nil), fun W_ hI => out_of (l := []) hI [] rfl rfl (mle_refl _) (fun hS_ => ?_)⟩
   dsimp only [packV]
   all_goals (first | rfl | (exact congrArg Value.bool (decide_eq_false (get_ne ‹d0[k]? = some _› ‹d1[k]? = some _› (fun e => by subst e; first | exact absurd rfl ‹¬ _ = _› | omega))).symm))
 refine VD.y rfl rfl (.inr ⟨_, _, rfl, _, rfl, rfl⟩) (.mv rfl) ?_
 refine VD.y rfl rfl (.inr ⟨_, _, rfl, _, rfl, rfl⟩) (.mv rfl) ?_
 refine VD.y rfl rfl (.inr ⟨_, _, rfl, _, rfl, rfl⟩) (.ixI k rfl rfl tsl41 rfl bd) ?_
 refine VD.y rfl rfl (.inr ⟨_, _, rfl, _, rfl, rfl⟩) (.fa rfl tst24 rfl) ?_
 refine VD.y rfl rfl (.inr ⟨_, _, rfl, _, rfl, rfl⟩) (.ld1 0 rfl tk3 rfl (hce3.at1 (j := 1) rfl)) ?_
 refine VD.y rfl rfl (.inr ⟨_, _, rfl, _, rfl, rfl⟩) (.mv rfl) ?_
 refine VD.y rfl rfl (.inr ⟨_, _, rfl, _, rfl, rfl⟩) (.mv rfl) ?_
 refine VD.y rfl rfl (.inr ⟨_, _, rfl, _, rfl, rfl⟩) (.ixI k rfl rfl tsl41 rfl bd) ?_
 refine VD.y rfl rfl (.inr ⟨_, _, rfl, _, rfl, rfl⟩) (.fa rfl tst24 rfl) ?_
 refine VD.y rfl rfl (.inr ⟨_, _, rfl, _, rfl, rfl⟩) (.ld1 0 rfl tk3 rfl (hce4.at1 (j := 1) rfl)) ?_
 refine VD.y rfl rfl (.inr ⟨_, _, rfl, _, rfl, rfl⟩) (.neq rfl rfl) ?_
 refine VD.y rfl rfl (.inl rfl) (.pF rfl rfl) (VD.y rfl rfl (.inl rfl) (.mv rfl) ?_)
 refine VD.dec (s := 41) rfl (fun hc8 => ?_) (fun hc8 => ?_)
 · refine VD.gn rfl rfl (.inl ⟨_, rfl, rfl⟩) ?_
   refine VD.gn rfl rfl (.inl ⟨_, rfl, rfl⟩) ?_
   refine VD.gn rfl rfl (.inl ⟨_, rfl, rfl⟩) ?_
   refine VD.gn rfl rfl (.inl ⟨_, rfl, rfl⟩) ?_
   refine VD.gn rfl rfl (.inl ⟨_, rfl, rfl⟩) ?_
   refine VD.gn rfl rfl (.inl ⟨_, rfl, rfl⟩) ?_
   refine VD.gn rfl rfl (.inl ⟨_, rfl, rfl⟩) ?_
   refine VD.gn rfl rfl (.inl ⟨_, rfl, rfl⟩) ?_
   refine VD.gn rfl rfl (.inl ⟨_, rfl, rfl⟩) ?_
   refine VD.gn rfl rfl (.inl ⟨_, rfl, rfl⟩) ?_
   refine VD.nil rfl ?_ rfl
   refine VO.gN (VO.gN (VO.y rfl (.pT rfl rfl) (VO.k6 0 1 5 10 14 54 (outN (VC.condT rfl (VC.rs (VO.as ?_)))))))
   refine VO.kp [0] [(0, wm W)] ?_
   refine VO.k7 0 1 4 5 10 14 54 (VC.ret (outBR (outR (outR (outBR (outR ?_))))))
   refine ⟨_, _, res_run (rs := [.tmp 4]) rfl (.tmp rfl .nil), fun W_ hI => out_of (l := []) hI [] rfl rfl (mle_refl _) (fun hS_ => ?_)⟩
   dsimp only [packV]
   all_goals (first | rfl | (exact congrArg Value.bool (decide_eq_false (get_ne ‹d0[k]? = some _› ‹d1[k]? = some _› (fun e => by subst e; first | exact absurd rfl ‹¬ _ = _› | omega))).symm))
 refine VD.y rfl rfl (.inr ⟨_, _, rfl, _, rfl, rfl⟩) (.mv rfl) ?_
 refine VD.y rfl rfl (.inr ⟨_, _, rfl, _, rfl, rfl⟩) (.mv rfl) ?_
 refine VD.y rfl rfl (.inr ⟨_, _, rfl, _, rfl, rfl⟩) (.ixI k rfl rfl tsl41 rfl bd) ?_
 refine VD.y rfl rfl (.inr ⟨_, _, rfl, _, rfl, rfl⟩) (.fa rfl tst24 rfl) ?_
 refine VD.y rfl rfl (.inr ⟨_, _, rfl, _, rfl, rfl⟩) (.ld1 0 rfl tk22 rfl (hce3.at1 (j := 2) rfl)) ?_
 refine VD.y rfl rfl (.inr ⟨_, _, rfl, _, rfl, rfl⟩) (.mv rfl) ?_
 refine VD.y rfl rfl (.inr ⟨_, _, rfl, _, rfl, rfl⟩) (.mv rfl) ?_
 refine VD.y rfl rfl (.inr ⟨_, _, rfl, _, rfl, rfl⟩) (.ixI k rfl rfl tsl41 rfl bd) ?_
 refine VD.y rfl rfl (.inr ⟨_, _, rfl, _, rfl, rfl⟩) (.fa rfl tst24 rfl) ?_
 refine VD.y rfl rfl (.inr ⟨_, _, rfl, _, rfl, rfl⟩) (.ld1 0 rfl tk22 rfl (hce4.at1 (j := 2) rfl)) ?_
 refine VD.nil rfl ?_ rfl
 refine VO.gcallN 111 rfl ⟨_, rfl, rfl⟩ fnOk63 rfl (fun W hW => SameCommits_ok W (Rd.mono q3_2 (hW.at (i := 0) rfl)) (Rd.mono q4_2 (hW.at (i := 0) rfl))) (fun v11 m11 hv11 => ?_)
 subst hv11
 refine VO.gy rfl ⟨_, rfl, rfl⟩ (.notD rfl) (VO.y rfl (.pF rfl rfl) (VO.k6 0 1 5 10 14 54 (outN ?_)))
 refine VC.cond rfl (fun hc12 => ?_) (fun hc12 => ?_)
 · refine VC.rs (VO.as ?_)
   refine VO.kp [0] [(0, wm W)] ?_
   refine VO.k7 0 1 4 5 10 14 54 (VC.ret (outBR (outR (outR (outBR (outR ?_))))))
   refine ⟨_, _, res_run (rs := [.tmp 4]) rfl (.tmp rfl .nil), fun W_ hI => out_of (l := []) hI [] rfl rfl (mle_refl _) (fun hS_ => ?_)⟩
   dsimp only [packV]
   all_goals (first | rfl | (exact congrArg Value.bool (decide_eq_false (get_ne ‹d0[k]? = some _› ‹d1[k]? = some _› (fun e => by subst e; first | exact absurd rfl ‹¬ _ = _› | omega))).symm))
 refine VC.skip (outBN (outN ?_))
 refine VC.reg ?_
 refine VO.mv ?_
 refine VO.y rfl (.add (c := ((k + 1 : Nat) : Int)) rfl rfl (by omega) ⟨bd, bd⟩) ?_
 refine VO.as ?_
 refine VO.kp [0] [(0, wm W)] ?_
 refine VO.k6 0 1 5 10 14 54 ?_
 exact outN ⟨k + 1, ⟨by omega, by exact take_next ht ‹d0[k]? = some _› ‹d1[k]? = some _› (Prod.ext (by omega) (Prod.ext (by omega) (Decidable.not_not.1 (by assumption))))⟩, bd, ⟨⟨rfl, rfl, rfl, rfl, trivial⟩, fun _ h => Inv.sub h [0]⟩⟩
 · refine VC.exit (outE (outE (outBB (outN (VC.rs (VO.as (VO.k6 0 1 4 5 10 14 (VC.ret ?_))))))))
   refine ⟨_, _, res_run (rs := [.tmp 4]) rfl (.tmp rfl .nil), fun W_ hI => out_of (l := []) hI [] rfl rfl (mle_refl _) (fun hS_ => ?_)⟩
   dsimp only [packV]
   all_goals (first | rfl | (simp [take_all ht (by omega) (by omega)]))
theorem fin0_oWrite_ok {P : Prop} (h : P := by first | (rw [ow_bad1 (by assumption)] <;> rfl) | (rw [ow_bad2 (by assumption) (by assumption)] <;> rfl) | (rw [ow_bad3 (by assumption) (by assumption) (by omega)] <;> rfl) | (rw [ow_cutbad (by assumption) (by assumption) (by omega) (by omega) (by omega) (by assumption)] <;> rfl) | (rw [ow_wbad1 (by assumption) (by assumption) (by omega) (by omega) (by omega) (by assumption) (by assumption)] <;> rfl) | (rw [ow_good1 (by assumption) (by assumption) (by omega) (by omega) (by omega) (by assumption) (by assumption)] <;> rfl) | (rw [ow_wbad2 (by assumption) (by assumption) (by omega) (by omega) (by omega) (by assumption)] <;> rfl) | (rw [ow_good2 (by assumption) (by assumption) (by omega) (by omega) (by omega) (by assumption)] <;> rfl)) : P := h
theorem oWrite_ok (W : World) {m0 : Mem} (hm : mle (m0) (wm W)) {g0 : Nat} {d0 : DdiskDisk} (h0 : Ow (.ptr TdiskDisk) m0 [.pointer (some ⟨g0, 0, none⟩)] (g0, d0)) (d1 : Int) (h1 : inK .i64 d1) {v2 : List Value} {d2 : DSection} (h2 : Rd TSection (mout (wm W) (m0)) v2 d2) (e0 : okD d0) (e1 : wD d0 ≤ 100000000000) : CallR Try.prog 29 [.pointer (some ⟨g0, 0, none⟩), .int .i64 d1, .agg v2.toArray] W (m0) (fun v m' => v = .int .i64 ((orphW d0 d1 d2).2) ∧ Ow (.ptr TdiskDisk) m' [.pointer (some ⟨g0, 0, none⟩)] (g0, (orphW d0 d1 d2).1)) := by
 have h1' := h1; simp only [inK] at h1'
 obtain ⟨p2_A2, p2_c2, rfl, p2_0, p2_1, p2_2⟩ := open_Section (x0 := d2.1) (x1 := d2.2.1) (x2 := d2.2.2) h2
 simp only [inK] at p2_0 p2_1
 have p2_r2 := Rd.room p2_2
 refine CallR.ofB (n := 54) hm Try.func29 rfl rfl rfl ?_
 refine VC.rs ?_
 refine VO.box (cs := [.int .i64 (d2.1), .int .i64 (d2.2.1), .slice p2_A2 (d2.2.2.length) (p2_c2)]) 102 rfl rfl rfl (fun g1 => ?_)
 refine VO.as (VO.k5 0 1 2 5 6 (VC.rs (VO.mv ?_)))
 refine VO.call 1 rfl fnOk71 rfl rfl (fun W hW => dRead_ok W (hW.at (i := 1) rfl) h0 3 bdk (by assumption) bd) (fun v3 m3 hv3 => ?_)
 obtain ⟨s3_0, p3_0, p3_1, rfl, hS3, f3_0, w3_0⟩ := hv3
 refine VO.inv _ (fun _ h => h.parts (i := 1) rfl hS3 [104, 105]) ?_
 have hfa6 := (read_size d0 3)
 obtain ⟨A3_0, c3_0, eq3_0, l3_0, k3_0⟩ := f3_0.slice
 subst eq3_0
 simp only [maxLen] at k3_0
 refine VO.mv (VO.y rfl (.ext rfl rfl) (VO.y rfl (.ext rfl rfl) (VO.as (VO.as (VO.k7 0 1 2 5 6 7 8 (VC.seq (VC.rs (VO.mv (VO.y rfl (.neq rfl rfl) ?_)))))))))
 refine VO.kp [104, 105, 102, 0] [(104, p3_0), (105, p3_1), (102, mone g1 (.cells #[.int .i64 (d2.1), .int .i64 (d2.2.1), .slice p2_A2 (d2.2.2.length) (p2_c2)] 24 (0, 0))), (0, mout (wm W) (m0))] ?_
 refine VO.k8 0 1 2 5 6 7 8 18 ?_
 refine VC.cond rfl (fun hc7 => ?_) (fun hc7 => ?_)
 · refine VC.rs (VO.mv (VO.as (VO.k8 0 1 2 5 6 7 8 18 (VC.ret (outR ?_)))))
   refine ⟨_, _, res_run (rs := [.tmp 6]) rfl (.tmp rfl .nil), fun W_ hI => out_of (l := [p3_1]) hI [105] rfl rfl (mle_refl _) (fun hS_ => ?_)⟩
   dsimp only [packV]
   have hm0_ : ((orphW d0 d1 d2).1 : DdiskDisk) = d0 := by first | rfl | (exact fin0_oWrite_ok)
   refine ⟨?_, ?_⟩
   rotate_left
   · rw [hm0_]; exact (Ow.up w3_0 (hS_.1 _ (.head _)))
   all_goals (first | rfl | (exact fin0_oWrite_ok))
 refine VC.skip (outN (VC.rs (VO.y rfl (.ldA 102 rfl tk24 rfl (cellsAt_one rfl rfl)) ?_)))
 refine VO.callN 108 rfl fnOk16 rfl (fun W hW => sectEncode_ok W (Rd.mono h2 (hW.at (i := 0) rfl))) (fun v8 m8 hv8 => ?_)
 obtain ⟨s8_0, rfl, f8_0⟩ := hv8
 have hfa9 := sectEncode_len d2
 obtain ⟨A8_0, c8_0, eq8_0, l8_0, k8_0⟩ := f8_0.slice
 subst eq8_0
 simp only [maxLen] at k8_0
 refine VO.mv (VO.y rfl (.ext rfl rfl) (VO.y rfl (.ext rfl rfl) (VO.as (VO.as (VO.k9 0 1 2 5 6 7 8 9 18 (VC.seq (VC.rs (VO.mv (VO.y rfl (.neq rfl rfl) (VO.k10 0 1 2 5 6 7 8 9 18 26 ?_))))))))))
 refine VC.cond rfl (fun hc10 => ?_) (fun hc10 => ?_)
 · refine VC.rs (VO.mv (VO.as ?_))
   refine VO.kp [108, 104, 105, 102, 0] [(108, m8), (104, p3_0), (105, p3_1), (102, mone g1 (.cells #[.int .i64 (d2.1), .int .i64 (d2.2.1), .slice p2_A2 (d2.2.2.length) (p2_c2)] 24 (0, 0))), (0, mout (wm W) (m0))] ?_
   refine VO.k10 0 1 2 5 6 7 8 9 18 26 (VC.ret (outR ?_))
   refine ⟨_, _, res_run (rs := [.tmp 6]) rfl (.tmp rfl .nil), fun W_ hI => out_of (l := [p3_1]) hI [105] rfl rfl (mle_refl _) (fun hS_ => ?_)⟩
   dsimp only [packV]
   have hm0_ : ((orphW d0 d1 d2).1 : DdiskDisk) = d0 := by first | rfl | (exact fin0_oWrite_ok)
   refine ⟨?_, ?_⟩
   rotate_left
   · rw [hm0_]; exact (Ow.up w3_0 (hS_.1 _ (.head _)))
   all_goals (first | rfl | (exact fin0_oWrite_ok))
 refine VC.skip (outN (VC.seq (VC.rs (VO.mv (VO.y rfl (.lss rfl rfl) (VO.mv ?_))))))
 refine VO.dec (t := 30) rfl (fun hc11 => ?_) (fun hc11 => ?_)
 · refine VO.gN (VO.gN (VO.gN (VO.gN (VO.y rfl (.pT rfl rfl) ?_))))
   refine VO.kp [108, 104, 105, 102, 0] [(108, m8), (104, p3_0), (105, p3_1), (102, mone g1 (.cells #[.int .i64 (d2.1), .int .i64 (d2.2.1), .slice p2_A2 (d2.2.2.length) (p2_c2)] 24 (0, 0))), (0, mout (wm W) (m0))] ?_
   refine VO.k11 0 1 2 5 6 7 8 9 18 26 35 (VC.condT rfl (VC.rs (VO.as (VO.k11 0 1 2 5 6 7 8 9 18 26 35 (VC.ret (outR ?_))))))
   refine ⟨_, _, res_run (rs := [.tmp 6]) rfl (.tmp rfl .nil), fun W_ hI => out_of (l := [p3_1]) hI [105] rfl rfl (mle_refl _) (fun hS_ => ?_)⟩
   dsimp only [packV]
   have hm0_ : ((orphW d0 d1 d2).1 : DdiskDisk) = d0 := by first | rfl | (exact fin0_oWrite_ok)
   refine ⟨?_, ?_⟩
   rotate_left
   · rw [hm0_]; exact (Ow.up w3_0 (hS_.1 _ (.head _)))
   all_goals (first | rfl | (exact fin0_oWrite_ok))
 refine VO.gy rfl ⟨_, rfl, rfl⟩ (.mv rfl) (VO.gy rfl ⟨_, rfl, rfl⟩ (.mv rfl) ?_)
 refine VO.gy rfl ⟨_, rfl, rfl⟩ (.lenS rfl tsl25) ?_
 refine VO.gy rfl ⟨_, rfl, rfl⟩ (.gtr rfl rfl) (VO.y rfl (.pF rfl rfl) ?_)
 refine VO.kp [108, 104, 105, 102, 0] [(108, m8), (104, p3_0), (105, p3_1), (102, mone g1 (.cells #[.int .i64 (d2.1), .int .i64 (d2.2.1), .slice p2_A2 (d2.2.2.length) (p2_c2)] 24 (0, 0))), (0, mout (wm W) (m0))] ?_
 refine VO.k11 0 1 2 5 6 7 8 9 18 26 35 ?_
 refine VC.cond rfl (fun hc12 => ?_) (fun hc12 => ?_)
 · refine VC.rs (VO.as (VO.k11 0 1 2 5 6 7 8 9 18 26 35 (VC.ret (outR ?_))))
   refine ⟨_, _, res_run (rs := [.tmp 6]) rfl (.tmp rfl .nil), fun W_ hI => out_of (l := [p3_1]) hI [105] rfl rfl (mle_refl _) (fun hS_ => ?_)⟩
   dsimp only [packV]
   have hm0_ : ((orphW d0 d1 d2).1 : DdiskDisk) = d0 := by first | rfl | (exact fin0_oWrite_ok)
   refine ⟨?_, ?_⟩
   rotate_left
   · rw [hm0_]; exact (Ow.up w3_0 (hS_.1 _ (.head _)))
   all_goals (first | rfl | (exact fin0_oWrite_ok))
 refine VC.skip (outN (VC.seq (VC.rs (VO.mv (VO.mv ?_)))))
 refine VO.y rfl (.lenS rfl tsl25) ?_
 refine VO.y rfl (.lss rfl rfl) (VO.k12 0 1 2 5 6 7 8 9 18 26 35 39 ?_)
 refine VC.cond rfl (fun hc13 => ?_) (fun hc13 => ?_)
 refine VC.rs (VO.mv (VO.mv ?_))
 refine VO.call 105 rfl fnOk72 rfl rfl (fun W hW => dCut_ok W (hW.at (i := 105) rfl) w3_0 3 bdk d1 bdk (by assumption) bd) (fun v14 m14 hv14 => ?_)
 obtain ⟨rfl, w14_0⟩ := hv14
 have hfa15 := (cut_ok (f := 3) (n := d1) (show okD d0 by assumption))
 have hfa16 := (cut_w (f := 3) (n := d1) (show okD d0 by assumption))
 refine VO.as (VO.k13 0 1 2 5 6 7 8 9 10 18 26 35 39 (VC.rs (VO.mv (VO.y rfl (.neq rfl rfl) ?_))))
 refine VO.kp [105, 108, 104, 102, 0] [(105, m14), (108, m8), (104, p3_0), (102, mone g1 (.cells #[.int .i64 (d2.1), .int .i64 (d2.2.1), .slice p2_A2 (d2.2.2.length) (p2_c2)] 24 (0, 0))), (0, mout (wm W) (m0))] ?_
 refine VO.k14 0 1 2 5 6 7 8 9 10 18 26 35 39 44 ?_
 refine VC.cond rfl (fun hc17 => ?_) (fun hc17 => ?_)
 · refine VC.rs (VO.mv (VO.as (VO.k14 0 1 2 5 6 7 8 9 10 18 26 35 39 44 (VC.ret (outR ?_)))))
   refine ⟨_, _, res_run (rs := [.tmp 6]) rfl (.tmp rfl .nil), fun W_ hI => out_of (l := [m14]) hI [105] rfl rfl (mle_refl _) (fun hS_ => ?_)⟩
   dsimp only [packV]
   have hm0_ : ((orphW d0 d1 d2).1 : DdiskDisk) = (dCut d0 3 d1).1 := by first | rfl | (exact fin0_oWrite_ok)
   refine ⟨?_, ?_⟩
   rotate_left
   · rw [hm0_]; exact (Ow.up w14_0 (hS_.1 _ (.head _)))
   all_goals (first | rfl | (exact fin0_oWrite_ok))
 refine VC.skip (outN (VC.seq (VC.rs (VO.mv (VO.mv ?_)))))
 refine VO.call 105 rfl fnOk35 rfl rfl (fun W hW => dWrite_ok W (hW.at (i := 105) rfl) w14_0 3 bdk (OwnL.rd (Ow.ownl f8_0 rfl mnil) (hW.out (i := 105) (j := 108) rfl rfl) (mle_nil _)) (by assumption) bd) (fun v18 m18 hv18 => ?_)
 obtain ⟨rfl, w18_0⟩ := hv18
 have hfa19 := (write_ok (f := 3) (b := ((sectEncode d2).1)) (show okD ((dCut d0 3 d1).1) by assumption))
 have hfa20 := (write_w (f := 3) (b := ((sectEncode d2).1)) (show okD ((dCut d0 3 d1).1) by assumption))
 refine VO.as (VO.k15 0 1 2 5 6 7 8 9 10 11 18 26 35 39 44 (VC.rs (VO.mv (VO.y rfl (.neq rfl rfl) (VO.k16 0 1 2 5 6 7 8 9 10 11 18 26 35 39 44 50 ?_)))))
 refine VC.cond rfl (fun hc21 => ?_) (fun hc21 => ?_)
 · refine VC.rs (VO.mv (VO.as ?_))
   refine VO.kp [105, 108, 104, 102, 0] [(105, m18), (108, m8), (104, p3_0), (102, mone g1 (.cells #[.int .i64 (d2.1), .int .i64 (d2.2.1), .slice p2_A2 (d2.2.2.length) (p2_c2)] 24 (0, 0))), (0, mout (wm W) (m0))] ?_
   refine VO.k16 0 1 2 5 6 7 8 9 10 11 18 26 35 39 44 50 (VC.ret (outR ?_))
   refine ⟨_, _, res_run (rs := [.tmp 6]) rfl (.tmp rfl .nil), fun W_ hI => out_of (l := [m18]) hI [105] rfl rfl (mle_refl _) (fun hS_ => ?_)⟩
   dsimp only [packV]
   have hm0_ : ((orphW d0 d1 d2).1 : DdiskDisk) = (dWrite ((dCut d0 3 d1).1) 3 ((sectEncode d2).1)).1 := by first | rfl | (exact fin0_oWrite_ok)
   refine ⟨?_, ?_⟩
   rotate_left
   · rw [hm0_]; exact (Ow.up w18_0 (hS_.1 _ (.head _)))
   all_goals (first | rfl | (exact fin0_oWrite_ok))
 · refine VC.skip (outN (VC.rs (VO.mv ?_)))
   refine VO.call 105 rfl fnOk37 rfl rfl (fun W hW => dSync_ok W (hW.at (i := 105) rfl) w18_0 (by assumption) bd) (fun v22 m22 hv22 => ?_)
   obtain ⟨rfl, w22_0⟩ := hv22
   have hfa23 := (sync_ok (show okD ((dWrite ((dCut d0 3 d1).1) 3 ((sectEncode d2).1)).1) by assumption))
   have hfa24 := (sync_w (show okD ((dWrite ((dCut d0 3 d1).1) 3 ((sectEncode d2).1)).1) by assumption))
   refine VO.as ?_
   refine VO.kp [105, 108, 104, 102, 0] [(105, m22), (108, m8), (104, p3_0), (102, mone g1 (.cells #[.int .i64 (d2.1), .int .i64 (d2.2.1), .slice p2_A2 (d2.2.2.length) (p2_c2)] 24 (0, 0))), (0, mout (wm W) (m0))] ?_
   refine VO.k16 0 1 2 5 6 7 8 9 10 11 18 26 35 39 44 50 (VC.ret ?_)
   refine ⟨_, _, res_run (rs := [.tmp 6]) rfl (.tmp rfl .nil), fun W_ hI => out_of (l := [m22]) hI [105] rfl rfl (mle_refl _) (fun hS_ => ?_)⟩
   dsimp only [packV]
   have hm0_ : ((orphW d0 d1 d2).1 : DdiskDisk) = (dSync ((dWrite ((dCut d0 3 d1).1) 3 ((sectEncode d2).1)).1)).1 := by first | rfl | (exact fin0_oWrite_ok)
   refine ⟨?_, ?_⟩
   rotate_left
   · rw [hm0_]; exact (Ow.up w22_0 (hS_.1 _ (.head _)))
   all_goals (first | rfl | (exact fin0_oWrite_ok))
 refine VC.skip (outN (VC.seq (VC.rs (VO.mv (VO.mv ?_)))))
 refine VO.call 105 rfl fnOk35 rfl rfl (fun W hW => dWrite_ok W (hW.at (i := 105) rfl) w3_0 3 bdk (OwnL.rd (Ow.ownl f8_0 rfl mnil) (hW.out (i := 105) (j := 108) rfl rfl) (mle_nil _)) (by assumption) bd) (fun v25 m25 hv25 => ?_)
 obtain ⟨rfl, w25_0⟩ := hv25
 have hfa26 := (write_ok (f := 3) (b := ((sectEncode d2).1)) (show okD d0 by assumption))
 have hfa27 := (write_w (f := 3) (b := ((sectEncode d2).1)) (show okD d0 by assumption))
 refine VO.as (VO.k13 0 1 2 5 6 7 8 9 11 18 26 35 39 (VC.rs (VO.mv (VO.y rfl (.neq rfl rfl) ?_))))
 refine VO.kp [105, 108, 104, 102, 0] [(105, m25), (108, m8), (104, p3_0), (102, mone g1 (.cells #[.int .i64 (d2.1), .int .i64 (d2.2.1), .slice p2_A2 (d2.2.2.length) (p2_c2)] 24 (0, 0))), (0, mout (wm W) (m0))] ?_
 refine VO.k14 0 1 2 5 6 7 8 9 11 18 26 35 39 50 ?_
 refine VC.cond rfl (fun hc28 => ?_) (fun hc28 => ?_)
 · refine VC.rs (VO.mv (VO.as (VO.k14 0 1 2 5 6 7 8 9 11 18 26 35 39 50 (VC.ret (outR ?_)))))
   refine ⟨_, _, res_run (rs := [.tmp 6]) rfl (.tmp rfl .nil), fun W_ hI => out_of (l := [m25]) hI [105] rfl rfl (mle_refl _) (fun hS_ => ?_)⟩
   dsimp only [packV]
   have hm0_ : ((orphW d0 d1 d2).1 : DdiskDisk) = (dWrite d0 3 ((sectEncode d2).1)).1 := by first | rfl | (exact fin0_oWrite_ok)
   refine ⟨?_, ?_⟩
   rotate_left
   · rw [hm0_]; exact (Ow.up w25_0 (hS_.1 _ (.head _)))
   all_goals (first | rfl | (exact fin0_oWrite_ok))
 · refine VC.skip (outN (VC.rs (VO.mv ?_)))
   refine VO.call 105 rfl fnOk37 rfl rfl (fun W hW => dSync_ok W (hW.at (i := 105) rfl) w25_0 (by assumption) bd) (fun v29 m29 hv29 => ?_)
   obtain ⟨rfl, w29_0⟩ := hv29
   have hfa30 := (sync_ok (show okD ((dWrite d0 3 ((sectEncode d2).1)).1) by assumption))
   have hfa31 := (sync_w (show okD ((dWrite d0 3 ((sectEncode d2).1)).1) by assumption))
   refine VO.as (VO.k14 0 1 2 5 6 7 8 9 11 18 26 35 39 50 (VC.ret ?_))
   refine ⟨_, _, res_run (rs := [.tmp 6]) rfl (.tmp rfl .nil), fun W_ hI => out_of (l := [m29]) hI [105] rfl rfl (mle_refl _) (fun hS_ => ?_)⟩
   dsimp only [packV]
   have hm0_ : ((orphW d0 d1 d2).1 : DdiskDisk) = (dSync ((dWrite d0 3 ((sectEncode d2).1)).1)).1 := by first | rfl | (exact fin0_oWrite_ok)
   refine ⟨?_, ?_⟩
   rotate_left
   · rw [hm0_]; exact (Ow.up w29_0 (hS_.1 _ (.head _)))
   all_goals (first | rfl | (exact fin0_oWrite_ok))
theorem oWriteN_ok (W : World) (d1 : Int) (h1 : inK .i64 d1) {v2 : List Value} {d2 : DSection} (h2 : Rd TSection (wm W) v2 d2) : CallR Try.prog 29 [.pointer none, .int .i64 d1, .agg v2.toArray] W (mnil) (fun v m' => v = .int .i64 (1)) := by
 have h1' := h1; simp only [inK] at h1'
 obtain ⟨p2_A2, p2_c2, rfl, p2_0, p2_1, p2_2⟩ := open_Section (x0 := d2.1) (x1 := d2.2.1) (x2 := d2.2.2) h2
 simp only [inK] at p2_0 p2_1
 have p2_r2 := Rd.room p2_2
 refine CallR.ofA (n := 54) Try.func29 rfl rfl rfl ?_
 refine VC.rs ?_
 refine VO.box (cs := [.int .i64 (d2.1), .int .i64 (d2.2.1), .slice p2_A2 (d2.2.2.length) (p2_c2)]) 102 rfl rfl rfl (fun g1 => ?_)
 refine VO.as (VO.k5 0 1 2 5 6 (VC.rs (VO.mv ?_)))
 refine VO.callN 103 rfl fnOk71 rfl (fun W hW => dReadN_ok W 3 bdk) (fun v3 m3 hv3 => ?_)
 obtain ⟨s3_0, rfl, f3_0⟩ := hv3
 obtain ⟨A3_0, c3_0, eq3_0, l3_0, k3_0⟩ := f3_0.slice
 subst eq3_0
 simp only [maxLen] at k3_0
 refine VO.mv (VO.y rfl (.ext rfl rfl) (VO.y rfl (.ext rfl rfl) (VO.as (VO.as (VO.k7 0 1 2 5 6 7 8 (VC.seq (VC.rs (VO.mv (VO.y rfl (.neq rfl rfl) ?_)))))))))
 refine VO.kp [103, 102, 0] [(103, m3), (102, mone g1 (.cells #[.int .i64 (d2.1), .int .i64 (d2.2.1), .slice p2_A2 (d2.2.2.length) (p2_c2)] 24 (0, 0))), (0, wm W)] ?_
 refine VO.k8 0 1 2 5 6 7 8 18 ?_
 refine VC.cond rfl (fun hc4 => ?_) (fun hc4 => ?_)
 · refine VC.rs (VO.mv (VO.as (VO.k8 0 1 2 5 6 7 8 18 (VC.ret (outR ?_)))))
   refine ⟨_, _, res_run (rs := [.tmp 6]) rfl (.tmp rfl .nil), fun W_ hI => out_of (l := []) hI [] rfl rfl (mle_refl _) (fun hS_ => ?_)⟩
   dsimp only [packV]
   all_goals (first | rfl | (simp [*]; done))
 exact absurd hc4 (by decide)
theorem fin0_s19Write_ok {P : Prop} (h : P := by first | (rw [row_bad1 (by assumption)] <;> rfl) | (rw [row_bad2 (by first | assumption | (simp [*]; done)) (by first | assumption | simpa using ‹_›)] <;> rfl) | (rw [row_bad3 (by first | assumption | (simp [*]; done)) (by first | assumption | simpa using ‹_›) (by assumption)] <;> rfl) | (rw [row_bad4 (by first | assumption | (simp [*]; done)) (by first | assumption | simpa using ‹_›) (by assumption) (by omega)] <;> rfl) | (rw [row_cutbad (by first | assumption | (simp [*]; done)) (by first | assumption | simpa using ‹_›) (by assumption) (by omega) (by omega) (by omega) (by assumption)] <;> rfl) | (rw [((row_cut e0 (by first | assumption | (simp [*]; done)) (by first | assumption | simpa using ‹_›) (by assumption) (by omega) (by omega) (by omega) (by assumption) rfl).1 (by assumption)).2] <;> rfl) | (rw [((row_cut e0 (by first | assumption | (simp [*]; done)) (by first | assumption | simpa using ‹_›) (by assumption) (by omega) (by omega) (by omega) (by assumption) rfl).2 _ rfl (by assumption)).2.1 (by assumption)] <;> rfl) | (rw [((row_cut e0 (by first | assumption | (simp [*]; done)) (by first | assumption | simpa using ‹_›) (by assumption) (by omega) (by omega) (by omega) (by assumption) rfl).2 _ rfl (by assumption)).2.2 (by assumption)] <;> rfl) | (rw [((row_nocut e0 (by first | assumption | (simp [*]; done)) (by first | assumption | simpa using ‹_›) (by assumption) (by omega) (by omega) (by omega)).1 (by assumption)).2] <;> rfl) | (rw [((row_nocut e0 (by first | assumption | (simp [*]; done)) (by first | assumption | simpa using ‹_›) (by assumption) (by omega) (by omega) (by omega)).2 _ rfl (by assumption)).2.1 (by assumption)] <;> rfl) | (rw [((row_nocut e0 (by first | assumption | (simp [*]; done)) (by first | assumption | simpa using ‹_›) (by assumption) (by omega) (by omega) (by omega)).2 _ rfl (by assumption)).2.2 (by assumption)] <;> rfl)) : P := h
theorem fin1_s19Write_ok {P : Prop} (h : P := by first | (rw [row_bad1 (by assumption), to_from]; done) | (rw [row_bad2 (by first | assumption | (simp [*]; done)) (by first | assumption | simpa using ‹_›), to_from]; done) | (rw [row_bad3 (by first | assumption | (simp [*]; done)) (by first | assumption | simpa using ‹_›) (by assumption), to_from]; done) | (rw [row_bad4 (by first | assumption | (simp [*]; done)) (by first | assumption | simpa using ‹_›) (by assumption) (by omega), to_from]; done) | (rw [row_cutbad (by first | assumption | (simp [*]; done)) (by first | assumption | simpa using ‹_›) (by assumption) (by omega) (by omega) (by omega) (by assumption)]; done) | exact ((row_cut e0 (by first | assumption | (simp [*]; done)) (by first | assumption | simpa using ‹_›) (by assumption) (by omega) (by omega) (by omega) (by assumption) rfl).1 (by assumption)).1 | exact ((row_cut e0 (by first | assumption | (simp [*]; done)) (by first | assumption | simpa using ‹_›) (by assumption) (by omega) (by omega) (by omega) (by assumption) rfl).2 _ rfl (by assumption)).1 | exact ((row_nocut e0 (by first | assumption | (simp [*]; done)) (by first | assumption | simpa using ‹_›) (by assumption) (by omega) (by omega) (by omega)).1 (by assumption)).1 | exact ((row_nocut e0 (by first | assumption | (simp [*]; done)) (by first | assumption | simpa using ‹_›) (by assumption) (by omega) (by omega) (by omega)).2 _ rfl (by assumption)).1) : P := h
set_option maxHeartbeats 2000000 in
theorem s19Write_ok (W : World) {m0 : Mem} (hm : mle (m0) (wm W)) {g0 : Nat} {d0 : Dref05Disk} (h0 : Ow (.ptr Tref05Disk) m0 [.pointer (some ⟨g0, 0, none⟩)] (g0, d0)) (d1 : Int) (h1 : inK .i64 d1) {v2 : List Value} {d2 : DSection} (h2 : Rd TSection (mout (wm W) (m0)) v2 d2) (e0 : okR d0) (e1 : wD (fromR d0) ≤ 100000000000) : CallR Try.prog 41 [.pointer (some ⟨g0, 0, none⟩), .int .i64 d1, .agg v2.toArray] W (m0) (fun v m' => v = .int .i64 ((orphW (fromR d0) d1 d2).2) ∧ Ow (.ptr Tref05Disk) m' [.pointer (some ⟨g0, 0, none⟩)] (g0, toR (orphW (fromR d0) d1 d2).1 d0.2.2.2.2.2.1)) := by
  have h1' := h1; simp only [inK] at h1'
  obtain ⟨p2_A2, p2_c2, rfl, p2_0, p2_1, p2_2⟩ := open_Section (x0 := d2.1) (x1 := d2.2.1) (x2 := d2.2.2) h2
  simp only [inK] at p2_0
  simp only [inK] at p2_1
  have p2_r2 := Rd.room p2_2
  refine CallR.ofB (n := 60) hm Try.func41 rfl rfl rfl ?_
  refine VC.rs ?_
  refine VO.box (cs := [Value.int .i64 (d2.1), Value.int .i64 (d2.2.1), Value.slice p2_A2 (d2.2.2.length) (p2_c2)]) 102 rfl rfl rfl (fun g1 => ?_)
  refine VO.as ?_
  refine VO.k5 0 1 2 5 6 ?_
  refine VC.seq ?_
  refine VC.rs ?_
  refine VO.mv ?_
  refine VO.y rfl (.pnil rfl rfl Try.underlying62 rfl) ?_
  refine VO.mv ?_
  refine VO.gy rfl ⟨_, rfl, rfl⟩ (.mv rfl) ?_
  refine VO.gy rfl ⟨_, rfl, rfl⟩ (.nilp rfl) ?_
  refine VO.gy rfl ⟨_, rfl, rfl⟩ (.fa rfl tst99 rfl) ?_
  obtain ⟨q3_E, q3_A1, q3_c1, q3_A2, q3_c2, q3_A3, q3_c3, q3_A4, q3_c4, q3_A5, q3_c5, q3_n1, q3_n2, q3_n3, q3_n4, q3_n5, _, q3_S, q3_1, q3_2, q3_3, q3_4, q3_5, q3_8, q3_9⟩ := openP_ref05Disk (x0 := d0.1) (x1 := d0.2.1.1) (x2 := d0.2.1.2.1) (x3 := d0.2.1.2.2.1) (x4 := d0.2.1.2.2.2) (x5 := d0.2.2.1) (x6 := d0.2.2.2.1) (x7 := d0.2.2.2.2.1) (x8 := d0.2.2.2.2.2.1) (x9 := d0.2.2.2.2.2.2) h0
  have q3_r1 := q3_1.rm
  have q3_r2 := q3_2.rm
  have q3_r3 := q3_3.rm
  have q3_r4 := q3_4.rm
  have q3_r5 := q3_5.rm
  simp only [inK] at q3_8
  simp only [inK] at q3_9
  refine VO.inv _ (fun _ h => h.parts (i := 1) rfl q3_S [109, 104, 105, 106, 107, 108]) ?_
  refine VO.gy rfl ⟨_, rfl, rfl⟩ (.ld1 109 rfl tk4 rfl (cellsAt_one rfl rfl)) ?_
  refine VO.gy rfl ⟨_, rfl, rfl⟩ (.not rfl) ?_
  refine VO.y rfl (.pF rfl rfl) ?_
  refine VO.clsP 110 [109, 104, 105, 106, 107, 108] rfl (fun hg10 => (show Ow (.ptr Tref05Disk) _ _ (_, d0) from (mkP_ref05Disk d0.1 d0.2.1.1 d0.2.1.2.1 d0.2.1.2.2.1 d0.2.1.2.2.2 d0.2.2.1 d0.2.2.2.1 d0.2.2.2.2.1 d0.2.2.2.2.2.1 d0.2.2.2.2.2.2 hg10 (OwnL.ow (Ow.ownl q3_1 rfl mnil) rfl) (OwnL.ow (Ow.ownl q3_2 rfl mnil) rfl) (OwnL.ow (Ow.ownl q3_3 rfl mnil) rfl) (OwnL.ow (Ow.ownl q3_4 rfl mnil) rfl) q3_5 bdk bdk))) (fun mc10 ho10 => ?_)
  refine VO.k6 0 1 2 5 6 18 ?_
  refine VC.condBN rfl (fun hc11 => ?_) (fun hc11 => ?_)
  · -- T
    refine VC.rs ?_
    refine VO.as ?_
    refine VO.kp [110, 102, 0] [(110, mc10), (102, mone g1 (.cells [Value.int .i64 (d2.1), Value.int .i64 (d2.2.1), Value.slice p2_A2 (d2.2.2.length) (p2_c2)].toArray 24 (0, 0))), (0, mout (wm W) (m0))] ?_
    refine VO.k6 0 1 2 5 6 18 ?_
    refine VC.ret ?_
    refine outR ?_
    refine ⟨_, _, res_run (rs := [.tmp 6]) rfl (.tmp rfl .nil), fun W_ hI => out_of (l := [mc10]) hI [110] rfl rfl (mle_refl _) (fun hS_ => ?_)⟩
    dsimp only [packV]
    have hm0_ : (toR (orphW (fromR d0) d1 d2).1 d0.2.2.2.2.2.1 : Dref05Disk) = d0 := by first | rfl | (exact fin1_s19Write_ok)
    refine ⟨?_, ?_⟩
    rotate_left
    · rw [hm0_]; exact (Ow.up ho10 (hS_.1 _ (.head _)))
    all_goals (first | rfl | (exact fin0_s19Write_ok))
  · -- F
    refine VC.skip ?_
    refine outN ?_
    refine VC.seq ?_
    refine VC.rs ?_
    refine VO.mv ?_
    refine VO.y rfl (.nilp rfl) ?_
    refine VO.y rfl (.fa rfl tst99 rfl) ?_
    obtain ⟨q12_E, q12_A1, q12_c1, q12_A2, q12_c2, q12_A3, q12_c3, q12_A4, q12_c4, q12_A5, q12_c5, q12_n1, q12_n2, q12_n3, q12_n4, q12_n5, _, q12_S, q12_1, q12_2, q12_3, q12_4, q12_5, q12_8, q12_9⟩ := openP_ref05Disk (x0 := d0.1) (x1 := d0.2.1.1) (x2 := d0.2.1.2.1) (x3 := d0.2.1.2.2.1) (x4 := d0.2.1.2.2.2) (x5 := d0.2.2.1) (x6 := d0.2.2.2.1) (x7 := d0.2.2.2.2.1) (x8 := d0.2.2.2.2.2.1) (x9 := d0.2.2.2.2.2.2) ho10
    have q12_r1 := q12_1.rm
    have q12_r2 := q12_2.rm
    have q12_r3 := q12_3.rm
    have q12_r4 := q12_4.rm
    have q12_r5 := q12_5.rm
    simp only [inK] at q12_8
    simp only [inK] at q12_9
    refine VO.inv _ (fun _ h => h.parts (i := 110) rfl q12_S [118, 113, 114, 115, 116, 117]) ?_
    refine VO.y rfl (.ld1 118 rfl tk4 rfl (cellsAt_one rfl rfl)) ?_
    refine VO.y rfl (.not rfl) ?_
    refine VO.clsP 119 [118, 113, 114, 115, 116, 117] rfl (fun hg19 => (show Ow (.ptr Tref05Disk) _ _ (_, d0) from (mkP_ref05Disk d0.1 d0.2.1.1 d0.2.1.2.1 d0.2.1.2.2.1 d0.2.1.2.2.2 d0.2.2.1 d0.2.2.2.1 d0.2.2.2.2.1 d0.2.2.2.2.2.1 d0.2.2.2.2.2.2 hg19 (OwnL.ow (Ow.ownl q12_1 rfl mnil) rfl) (OwnL.ow (Ow.ownl q12_2 rfl mnil) rfl) (OwnL.ow (Ow.ownl q12_3 rfl mnil) rfl) (OwnL.ow (Ow.ownl q12_4 rfl mnil) rfl) q12_5 bdk bdk))) (fun mc19 ho19 => ?_)
    refine VO.kp [119, 102, 0] [(119, mc19), (102, mone g1 (.cells [Value.int .i64 (d2.1), Value.int .i64 (d2.2.1), Value.slice p2_A2 (d2.2.2.length) (p2_c2)].toArray 24 (0, 0))), (0, mout (wm W) (m0))] ?_
    refine VO.k7 0 1 2 5 6 18 23 ?_
    refine VC.condBN rfl (fun hc20 => ?_) (fun hc20 => ?_)
    · -- FT
      refine VC.rs ?_
      refine VO.as ?_
      refine VO.k7 0 1 2 5 6 18 23 ?_
      refine VC.ret ?_
      refine outR ?_
      refine ⟨_, _, res_run (rs := [.tmp 6]) rfl (.tmp rfl .nil), fun W_ hI => out_of (l := [mc19]) hI [119] rfl rfl (mle_refl _) (fun hS_ => ?_)⟩
      dsimp only [packV]
      have hm0_ : (toR (orphW (fromR d0) d1 d2).1 d0.2.2.2.2.2.1 : Dref05Disk) = d0 := by first | rfl | (exact fin1_s19Write_ok)
      refine ⟨?_, ?_⟩
      rotate_left
      · rw [hm0_]; exact (Ow.up ho19 (hS_.1 _ (.head _)))
      all_goals (first | rfl | (exact fin0_s19Write_ok))
    · -- FF
      refine VC.skip ?_
      refine outN ?_
      refine VC.rs ?_
      refine VO.y rfl (.ldA 102 rfl tk24 rfl (cellsAt_one rfl rfl)) ?_
      refine VO.callN 121 rfl fnOk17 rfl (fun W hW => s19Encode_ok W (Rd.mono h2 (hW.at (i := 0) rfl))) (fun v21 m21 hv21 => ?_)
      obtain ⟨s21_0, rfl, f21_0⟩ := hv21
      have hfa22 := sectEncode_len d2
      obtain ⟨A21_0, c21_0, eq21_0, l21_0, k21_0⟩ := f21_0.slice
      subst eq21_0
      simp only [maxLen] at k21_0
      refine VO.mv ?_
      refine VO.y rfl (.ext rfl rfl) ?_
      refine VO.y rfl (.ext rfl rfl) ?_
      refine VO.as ?_
      refine VO.as ?_
      refine VO.k9 0 1 2 5 6 7 8 18 23 ?_
      refine VC.seq ?_
      refine VC.rs ?_
      refine VO.mv ?_
      refine VO.y rfl (.neq rfl rfl) ?_
      refine VO.k10 0 1 2 5 6 7 8 18 23 30 ?_
      refine VC.cond rfl (fun hc23 => ?_) (fun hc23 => ?_)
      · -- FFT
        refine VC.rs ?_
        refine VO.mv ?_
        refine VO.as ?_
        refine VO.kp [121, 119, 102, 0] [(121, m21), (119, mc19), (102, mone g1 (.cells [Value.int .i64 (d2.1), Value.int .i64 (d2.2.1), Value.slice p2_A2 (d2.2.2.length) (p2_c2)].toArray 24 (0, 0))), (0, mout (wm W) (m0))] ?_
        refine VO.k10 0 1 2 5 6 7 8 18 23 30 ?_
        refine VC.ret ?_
        refine outR ?_
        refine ⟨_, _, res_run (rs := [.tmp 6]) rfl (.tmp rfl .nil), fun W_ hI => out_of (l := [mc19]) hI [119] rfl rfl (mle_refl _) (fun hS_ => ?_)⟩
        dsimp only [packV]
        have hm0_ : (toR (orphW (fromR d0) d1 d2).1 d0.2.2.2.2.2.1 : Dref05Disk) = d0 := by first | rfl | (exact fin1_s19Write_ok)
        refine ⟨?_, ?_⟩
        rotate_left
        · rw [hm0_]; exact (Ow.up ho19 (hS_.1 _ (.head _)))
        all_goals (first | rfl | (exact fin0_s19Write_ok))
      · -- FFF
        refine VC.skip ?_
        refine outN ?_
        refine VC.rs ?_
        refine VO.mv ?_
        refine VO.call 119 rfl fnOk81 rfl rfl (fun W hW => rHolds_ok W (hW.at (i := 119) rfl) ho19 3 bdk (by assumption) bd (by first | assumption | exact ⟨by omega, by omega⟩)) (fun v24 m24 hv24 => ?_)
        obtain ⟨s24_0, p24_0, p24_1, rfl, hS24, f24_0, w24_0⟩ := hv24
        refine VO.inv _ (fun _ h => h.parts (i := 119) rfl hS24 [125, 126]) ?_
        have hfa27 := heldB_size d0.2.1 (d0.2.2.1.map stepOf) 3
        obtain ⟨A24_0, c24_0, eq24_0, l24_0, k24_0⟩ := f24_0.slice
        subst eq24_0
        simp only [maxLen] at k24_0
        refine VO.y rfl (.lenS rfl tsl25) ?_
        refine VO.as ?_
        refine VO.kp [126, 121, 102, 0] [(126, p24_1), (121, m21), (102, mone g1 (.cells [Value.int .i64 (d2.1), Value.int .i64 (d2.2.1), Value.slice p2_A2 (d2.2.2.length) (p2_c2)].toArray 24 (0, 0))), (0, mout (wm W) (m0))] ?_
        refine VO.k11 0 1 2 5 6 7 8 9 18 23 30 ?_
        refine VC.seq ?_
        refine VC.rs ?_
        refine VO.mv ?_
        refine VO.y rfl (.lss rfl rfl) ?_
        refine VO.mv ?_
        refine VO.dec (t := 37) rfl (fun hc28 => ?_) (fun hc28 => ?_)
        · -- FFFT
          refine VO.gN ?_
          refine VO.gN ?_
          refine VO.gN ?_
          refine VO.y rfl (.pT rfl rfl) ?_
          refine VO.k12 0 1 2 5 6 7 8 9 18 23 30 41 ?_
          refine VC.condT rfl ?_
          refine VC.rs ?_
          refine VO.as ?_
          refine VO.k12 0 1 2 5 6 7 8 9 18 23 30 41 ?_
          refine VC.ret ?_
          refine outR ?_
          refine ⟨_, _, res_run (rs := [.tmp 6]) rfl (.tmp rfl .nil), fun W_ hI => out_of (l := [p24_1]) hI [126] rfl rfl (mle_refl _) (fun hS_ => ?_)⟩
          dsimp only [packV]
          have hm0_ : (toR (orphW (fromR d0) d1 d2).1 d0.2.2.2.2.2.1 : Dref05Disk) = d0 := by first | rfl | (exact fin1_s19Write_ok)
          refine ⟨?_, ?_⟩
          rotate_left
          · rw [hm0_]; exact (Ow.up w24_0 (hS_.1 _ (.head _)))
          all_goals (first | rfl | (exact fin0_s19Write_ok))
        · -- FFFF
          refine VO.gy rfl ⟨_, rfl, rfl⟩ (.mv rfl) ?_
          refine VO.gy rfl ⟨_, rfl, rfl⟩ (.mv rfl) ?_
          refine VO.gy rfl ⟨_, rfl, rfl⟩ (.gtr rfl rfl) ?_
          refine VO.y rfl (.pF rfl rfl) ?_
          refine VO.k12 0 1 2 5 6 7 8 9 18 23 30 41 ?_
          refine VC.cond rfl (fun hc29 => ?_) (fun hc29 => ?_)
          · -- FFFFT
            refine VC.rs ?_
            refine VO.as ?_
            refine VO.k12 0 1 2 5 6 7 8 9 18 23 30 41 ?_
            refine VC.ret ?_
            refine outR ?_
            refine ⟨_, _, res_run (rs := [.tmp 6]) rfl (.tmp rfl .nil), fun W_ hI => out_of (l := [p24_1]) hI [126] rfl rfl (mle_refl _) (fun hS_ => ?_)⟩
            dsimp only [packV]
            have hm0_ : (toR (orphW (fromR d0) d1 d2).1 d0.2.2.2.2.2.1 : Dref05Disk) = d0 := by first | rfl | (exact fin1_s19Write_ok)
            refine ⟨?_, ?_⟩
            rotate_left
            · rw [hm0_]; exact (Ow.up w24_0 (hS_.1 _ (.head _)))
            all_goals (first | rfl | (exact fin0_s19Write_ok))
          · -- FFFFF
            refine VC.skip ?_
            refine outN ?_
            refine VC.seq ?_
            refine VC.rs ?_
            refine VO.mv ?_
            refine VO.mv ?_
            refine VO.y rfl (.gtr rfl rfl) ?_
            refine VO.mv ?_
            refine VO.dec (t := 45) rfl (fun hc30 => ?_) (fun hc30 => ?_)
            · -- FFFFFT
              refine VO.gy rfl ⟨_, rfl, rfl⟩ (.mv rfl) ?_
              refine VO.gy rfl ⟨_, rfl, rfl⟩ (.mv rfl) ?_
              refine VO.gcall 126 rfl ⟨_, rfl, rfl⟩ fnOk82 rfl rfl (fun W hW => rCut_ok W (hW.at (i := 126) rfl) w24_0 3 bdk d1 bdk (by assumption) bd) (fun v31 m31 hv31 => ?_)
              obtain ⟨rfl, w31_0⟩ := hv31
              have hfa32 := (ro_cut (f := 3) (n := d1) (show okR d0 by assumption))
              have hfa33 := (rw_cut (f := 3) (n := d1) (show okR d0 by assumption))
              refine VO.gy rfl ⟨_, rfl, rfl⟩ (.neq rfl rfl) ?_
              refine VO.y rfl (.pT rfl rfl) ?_
              refine VO.k13 0 1 2 5 6 7 8 9 18 23 30 41 50 ?_
              refine VC.cond rfl (fun hc34 => ?_) (fun hc34 => ?_)
              · -- FFFFFTT
                refine VC.rs ?_
                refine VO.as ?_
                refine VO.kp [126, 121, 102, 0] [(126, m31), (121, m21), (102, mone g1 (.cells [Value.int .i64 (d2.1), Value.int .i64 (d2.2.1), Value.slice p2_A2 (d2.2.2.length) (p2_c2)].toArray 24 (0, 0))), (0, mout (wm W) (m0))] ?_
                refine VO.k13 0 1 2 5 6 7 8 9 18 23 30 41 50 ?_
                refine VC.ret ?_
                refine outR ?_
                refine ⟨_, _, res_run (rs := [.tmp 6]) rfl (.tmp rfl .nil), fun W_ hI => out_of (l := [m31]) hI [126] rfl rfl (mle_refl _) (fun hS_ => ?_)⟩
                dsimp only [packV]
                have hm0_ : (toR (orphW (fromR d0) d1 d2).1 d0.2.2.2.2.2.1 : Dref05Disk) = toR (dCut (fromR d0) 3 d1).1 d0.2.2.2.2.2.1 := by first | rfl | (exact fin1_s19Write_ok)
                refine ⟨?_, ?_⟩
                rotate_left
                · rw [hm0_]; exact (Ow.up w31_0 (hS_.1 _ (.head _)))
                all_goals (first | rfl | (exact fin0_s19Write_ok))
              · -- FFFFFTF
                refine VC.skip ?_
                refine outN ?_
                refine VC.seq ?_
                refine VC.rs ?_
                refine VO.mv ?_
                refine VO.mv ?_
                refine VO.call 126 rfl fnOk36 rfl rfl (fun W hW => rWrite_ok W (hW.at (i := 126) rfl) w31_0 3 bdk (OwnL.rd (Ow.ownl f21_0 rfl mnil) (hW.out (i := 126) (j := 121) rfl rfl) (mle_nil _)) (by assumption) bd) (fun v35 m35 hv35 => ?_)
                obtain ⟨rfl, w35_0⟩ := hv35
                have hfa36 := (ro_write (f := 3) (b := ((sectEncode d2).1)) (show okR (toR (dCut (fromR d0) 3 d1).1 d0.2.2.2.2.2.1) by assumption))
                have hfa37 := (rw_write (f := 3) (b := ((sectEncode d2).1)) (show okR (toR (dCut (fromR d0) 3 d1).1 d0.2.2.2.2.2.1) by assumption))
                refine VO.y rfl (.neq rfl rfl) ?_
                refine VO.mv ?_
                refine VO.dec (t := 55) rfl (fun hc38 => ?_) (fun hc38 => ?_)
                · -- FFFFFTFT
                  refine VO.gN ?_
                  refine VO.gN ?_
                  refine VO.gN ?_
                  refine VO.y rfl (.pT rfl rfl) ?_
                  refine VO.kp [126, 121, 102, 0] [(126, m35), (121, m21), (102, mone g1 (.cells [Value.int .i64 (d2.1), Value.int .i64 (d2.2.1), Value.slice p2_A2 (d2.2.2.length) (p2_c2)].toArray 24 (0, 0))), (0, mout (wm W) (m0))] ?_
                  refine VO.k14 0 1 2 5 6 7 8 9 18 23 30 41 50 59 ?_
                  refine VC.condT rfl ?_
                  refine VC.rs ?_
                  refine VO.as ?_
                  refine VO.k14 0 1 2 5 6 7 8 9 18 23 30 41 50 59 ?_
                  refine VC.ret ?_
                  refine outR ?_
                  refine ⟨_, _, res_run (rs := [.tmp 6]) rfl (.tmp rfl .nil), fun W_ hI => out_of (l := [m35]) hI [126] rfl rfl (mle_refl _) (fun hS_ => ?_)⟩
                  dsimp only [packV]
                  have hm0_ : (toR (orphW (fromR d0) d1 d2).1 d0.2.2.2.2.2.1 : Dref05Disk) = toR (dWrite (fromR (toR (dCut (fromR d0) 3 d1).1 d0.2.2.2.2.2.1)) 3 ((sectEncode d2).1)).1 (toR (dCut (fromR d0) 3 d1).1 d0.2.2.2.2.2.1).2.2.2.2.2.1 := by first | rfl | (exact fin1_s19Write_ok)
                  refine ⟨?_, ?_⟩
                  rotate_left
                  · rw [hm0_]; exact (Ow.up w35_0 (hS_.1 _ (.head _)))
                  all_goals (first | rfl | (exact fin0_s19Write_ok))
                · -- FFFFFTFF
                  refine VO.gy rfl ⟨_, rfl, rfl⟩ (.mv rfl) ?_
                  refine VO.gcall 126 rfl ⟨_, rfl, rfl⟩ fnOk38 rfl rfl (fun W hW => rSync_ok W (hW.at (i := 126) rfl) w35_0 (by assumption) bd) (fun v39 m39 hv39 => ?_)
                  obtain ⟨rfl, w39_0⟩ := hv39
                  have hfa40 := (ro_sync (show okR (toR (dWrite (fromR (toR (dCut (fromR d0) 3 d1).1 d0.2.2.2.2.2.1)) 3 ((sectEncode d2).1)).1 (toR (dCut (fromR d0) 3 d1).1 d0.2.2.2.2.2.1).2.2.2.2.2.1) by assumption))
                  have hfa41 := (rw_sync (show okR (toR (dWrite (fromR (toR (dCut (fromR d0) 3 d1).1 d0.2.2.2.2.2.1)) 3 ((sectEncode d2).1)).1 (toR (dCut (fromR d0) 3 d1).1 d0.2.2.2.2.2.1).2.2.2.2.2.1) by assumption))
                  refine VO.gy rfl ⟨_, rfl, rfl⟩ (.neq rfl rfl) ?_
                  refine VO.y rfl (.pF rfl rfl) ?_
                  refine VO.kp [126, 121, 102, 0] [(126, m39), (121, m21), (102, mone g1 (.cells [Value.int .i64 (d2.1), Value.int .i64 (d2.2.1), Value.slice p2_A2 (d2.2.2.length) (p2_c2)].toArray 24 (0, 0))), (0, mout (wm W) (m0))] ?_
                  refine VO.k14 0 1 2 5 6 7 8 9 18 23 30 41 50 59 ?_
                  refine VC.cond rfl (fun hc42 => ?_) (fun hc42 => ?_)
                  · -- FFFFFTFFT
                    refine VC.rs ?_
                    refine VO.as ?_
                    refine VO.k14 0 1 2 5 6 7 8 9 18 23 30 41 50 59 ?_
                    refine VC.ret ?_
                    refine outR ?_
                    refine ⟨_, _, res_run (rs := [.tmp 6]) rfl (.tmp rfl .nil), fun W_ hI => out_of (l := [m39]) hI [126] rfl rfl (mle_refl _) (fun hS_ => ?_)⟩
                    dsimp only [packV]
                    have hm0_ : (toR (orphW (fromR d0) d1 d2).1 d0.2.2.2.2.2.1 : Dref05Disk) = toR (dSync (fromR (toR (dWrite (fromR (toR (dCut (fromR d0) 3 d1).1 d0.2.2.2.2.2.1)) 3 ((sectEncode d2).1)).1 (toR (dCut (fromR d0) 3 d1).1 d0.2.2.2.2.2.1).2.2.2.2.2.1))).1 (toR (dWrite (fromR (toR (dCut (fromR d0) 3 d1).1 d0.2.2.2.2.2.1)) 3 ((sectEncode d2).1)).1 (toR (dCut (fromR d0) 3 d1).1 d0.2.2.2.2.2.1).2.2.2.2.2.1).2.2.2.2.2.1 := by first | rfl | (exact fin1_s19Write_ok)
                    refine ⟨?_, ?_⟩
                    rotate_left
                    · rw [hm0_]; exact (Ow.up w39_0 (hS_.1 _ (.head _)))
                    all_goals (first | rfl | (exact fin0_s19Write_ok))
                  · -- FFFFFTFFF
                    refine VC.skip ?_
                    refine outN ?_
                    refine VC.rs ?_
                    refine VO.as ?_
                    refine VO.k14 0 1 2 5 6 7 8 9 18 23 30 41 50 59 ?_
                    refine VC.ret ?_
                    refine ⟨_, _, res_run (rs := [.tmp 6]) rfl (.tmp rfl .nil), fun W_ hI => out_of (l := [m39]) hI [126] rfl rfl (mle_refl _) (fun hS_ => ?_)⟩
                    dsimp only [packV]
                    have hm0_ : (toR (orphW (fromR d0) d1 d2).1 d0.2.2.2.2.2.1 : Dref05Disk) = toR (dSync (fromR (toR (dWrite (fromR (toR (dCut (fromR d0) 3 d1).1 d0.2.2.2.2.2.1)) 3 ((sectEncode d2).1)).1 (toR (dCut (fromR d0) 3 d1).1 d0.2.2.2.2.2.1).2.2.2.2.2.1))).1 (toR (dWrite (fromR (toR (dCut (fromR d0) 3 d1).1 d0.2.2.2.2.2.1)) 3 ((sectEncode d2).1)).1 (toR (dCut (fromR d0) 3 d1).1 d0.2.2.2.2.2.1).2.2.2.2.2.1).2.2.2.2.2.1 := by first | rfl | (exact fin1_s19Write_ok)
                    refine ⟨?_, ?_⟩
                    rotate_left
                    · rw [hm0_]; exact (Ow.up w39_0 (hS_.1 _ (.head _)))
                    all_goals (first | rfl | (exact fin0_s19Write_ok))
            · -- FFFFFF
              refine VO.gN ?_
              refine VO.gN ?_
              refine VO.gN ?_
              refine VO.gN ?_
              refine VO.y rfl (.pF rfl rfl) ?_
              refine VO.k13 0 1 2 5 6 7 8 9 18 23 30 41 50 ?_
              refine VC.condF rfl ?_
              refine VC.skip ?_
              refine outN ?_
              refine VC.seq ?_
              refine VC.rs ?_
              refine VO.mv ?_
              refine VO.mv ?_
              refine VO.call 126 rfl fnOk36 rfl rfl (fun W hW => rWrite_ok W (hW.at (i := 126) rfl) w24_0 3 bdk (OwnL.rd (Ow.ownl f21_0 rfl mnil) (hW.out (i := 126) (j := 121) rfl rfl) (mle_nil _)) (by assumption) bd) (fun v43 m43 hv43 => ?_)
              obtain ⟨rfl, w43_0⟩ := hv43
              have hfa44 := (ro_write (f := 3) (b := ((sectEncode d2).1)) (show okR d0 by assumption))
              have hfa45 := (rw_write (f := 3) (b := ((sectEncode d2).1)) (show okR d0 by assumption))
              refine VO.y rfl (.neq rfl rfl) ?_
              refine VO.mv ?_
              refine VO.dec (t := 55) rfl (fun hc46 => ?_) (fun hc46 => ?_)
              · -- FFFFFFT
                refine VO.gN ?_
                refine VO.gN ?_
                refine VO.gN ?_
                refine VO.y rfl (.pT rfl rfl) ?_
                refine VO.kp [126, 121, 102, 0] [(126, m43), (121, m21), (102, mone g1 (.cells [Value.int .i64 (d2.1), Value.int .i64 (d2.2.1), Value.slice p2_A2 (d2.2.2.length) (p2_c2)].toArray 24 (0, 0))), (0, mout (wm W) (m0))] ?_
                refine VO.k14 0 1 2 5 6 7 8 9 18 23 30 41 50 59 ?_
                refine VC.condT rfl ?_
                refine VC.rs ?_
                refine VO.as ?_
                refine VO.k14 0 1 2 5 6 7 8 9 18 23 30 41 50 59 ?_
                refine VC.ret ?_
                refine outR ?_
                refine ⟨_, _, res_run (rs := [.tmp 6]) rfl (.tmp rfl .nil), fun W_ hI => out_of (l := [m43]) hI [126] rfl rfl (mle_refl _) (fun hS_ => ?_)⟩
                dsimp only [packV]
                have hm0_ : (toR (orphW (fromR d0) d1 d2).1 d0.2.2.2.2.2.1 : Dref05Disk) = toR (dWrite (fromR d0) 3 ((sectEncode d2).1)).1 d0.2.2.2.2.2.1 := by first | rfl | (exact fin1_s19Write_ok)
                refine ⟨?_, ?_⟩
                rotate_left
                · rw [hm0_]; exact (Ow.up w43_0 (hS_.1 _ (.head _)))
                all_goals (first | rfl | (exact fin0_s19Write_ok))
              · -- FFFFFFF
                refine VO.gy rfl ⟨_, rfl, rfl⟩ (.mv rfl) ?_
                refine VO.gcall 126 rfl ⟨_, rfl, rfl⟩ fnOk38 rfl rfl (fun W hW => rSync_ok W (hW.at (i := 126) rfl) w43_0 (by assumption) bd) (fun v47 m47 hv47 => ?_)
                obtain ⟨rfl, w47_0⟩ := hv47
                have hfa48 := (ro_sync (show okR (toR (dWrite (fromR d0) 3 ((sectEncode d2).1)).1 d0.2.2.2.2.2.1) by assumption))
                have hfa49 := (rw_sync (show okR (toR (dWrite (fromR d0) 3 ((sectEncode d2).1)).1 d0.2.2.2.2.2.1) by assumption))
                refine VO.gy rfl ⟨_, rfl, rfl⟩ (.neq rfl rfl) ?_
                refine VO.y rfl (.pF rfl rfl) ?_
                refine VO.kp [126, 121, 102, 0] [(126, m47), (121, m21), (102, mone g1 (.cells [Value.int .i64 (d2.1), Value.int .i64 (d2.2.1), Value.slice p2_A2 (d2.2.2.length) (p2_c2)].toArray 24 (0, 0))), (0, mout (wm W) (m0))] ?_
                refine VO.k14 0 1 2 5 6 7 8 9 18 23 30 41 50 59 ?_
                refine VC.cond rfl (fun hc50 => ?_) (fun hc50 => ?_)
                · -- FFFFFFFT
                  refine VC.rs ?_
                  refine VO.as ?_
                  refine VO.k14 0 1 2 5 6 7 8 9 18 23 30 41 50 59 ?_
                  refine VC.ret ?_
                  refine outR ?_
                  refine ⟨_, _, res_run (rs := [.tmp 6]) rfl (.tmp rfl .nil), fun W_ hI => out_of (l := [m47]) hI [126] rfl rfl (mle_refl _) (fun hS_ => ?_)⟩
                  dsimp only [packV]
                  have hm0_ : (toR (orphW (fromR d0) d1 d2).1 d0.2.2.2.2.2.1 : Dref05Disk) = toR (dSync (fromR (toR (dWrite (fromR d0) 3 ((sectEncode d2).1)).1 d0.2.2.2.2.2.1))).1 (toR (dWrite (fromR d0) 3 ((sectEncode d2).1)).1 d0.2.2.2.2.2.1).2.2.2.2.2.1 := by first | rfl | (exact fin1_s19Write_ok)
                  refine ⟨?_, ?_⟩
                  rotate_left
                  · rw [hm0_]; exact (Ow.up w47_0 (hS_.1 _ (.head _)))
                  all_goals (first | rfl | (exact fin0_s19Write_ok))
                · -- FFFFFFFF
                  refine VC.skip ?_
                  refine outN ?_
                  refine VC.rs ?_
                  refine VO.as ?_
                  refine VO.k14 0 1 2 5 6 7 8 9 18 23 30 41 50 59 ?_
                  refine VC.ret ?_
                  refine ⟨_, _, res_run (rs := [.tmp 6]) rfl (.tmp rfl .nil), fun W_ hI => out_of (l := [m47]) hI [126] rfl rfl (mle_refl _) (fun hS_ => ?_)⟩
                  dsimp only [packV]
                  have hm0_ : (toR (orphW (fromR d0) d1 d2).1 d0.2.2.2.2.2.1 : Dref05Disk) = toR (dSync (fromR (toR (dWrite (fromR d0) 3 ((sectEncode d2).1)).1 d0.2.2.2.2.2.1))).1 (toR (dWrite (fromR d0) 3 ((sectEncode d2).1)).1 d0.2.2.2.2.2.1).2.2.2.2.2.1 := by first | rfl | (exact fin1_s19Write_ok)
                  refine ⟨?_, ?_⟩
                  rotate_left
                  · rw [hm0_]; exact (Ow.up w47_0 (hS_.1 _ (.head _)))
                  all_goals (first | rfl | (exact fin0_s19Write_ok))
end
section
set_option linter.unusedVariables false
def exS : DSection := (2, 1, [ofC 1 2])
def exSB : Bytes := [3, 2, 1, 1, 9, 1, 2, 1, 1, 0, 1, 97, 1, 49]
theorem exS_enc : sectEnc exS = exSB := by
  simp [sectEnc, sectHead, fEnc, cFrames, cFrame, cEnc, exS, ofC, exSB, batchEnc, encOps, encOp, shared, venc_last]
theorem ex19E : sectEncode exS = (exSB, 0) := by rw [sectEncode_good (by decide), exS_enc]
theorem ex19S (r : Bytes) (h : (secRead r).2.2 = false) : scanF (exSB ++ r) = ([exS], 14) := by
  have h1 := scan_whole (l := [exS]) (r := r) ⟨by decide, by decide, trivial⟩ h
  have e : sectEncs [exS] = exSB := by simp [sectEncs, exS_enc]
  rw [e] at h1
  rw [h1]; rfl
theorem ex19D : scanF (exSB ++ [3, 3, 1, 1]) = ([exS], 14) := ex19S _ (by decide)
theorem ex19F : scanF exSB = ([exS], 14) := by
  have := ex19S [] sec_nil
  rwa [List.append_nil] at this
theorem ex19H : hasS (scanF exSB).1 1 2 = true ∧ hasS (scanF exSB).1 2 2 = false := by rw [ex19F]; decide
theorem orph_zero (b : Int) (s : DSection) : (orphW ((false, false, false, 0, 0, ([], [], [], []), []) : DDisk) b s).2 = 1 := by
  unfold orphW; rw [if_pos (by decide)]; rfl
theorem small_room {s : DSection} (h : ¬ ¬ smallS s) : s.2.2.length ≤ 40 ∧ (∀ c ∈ s.2.2, c.2.2.length ≤ 3518437208800) ∧ (sectEncode s).1.length ≤ 28440 := by
  have h := Decidable.not_not.1 h
  have h2 := h.2
  have h3 := (sectEncode_len s).2
  exact ⟨h2, fun c hc => by have := h.1 c hc; omega, by omega⟩
section
variable {d : DDisk} {r : DRDisk} (h : Tw d r)
include h
theorem Tw.steps : dSteps (fromR r) = dSteps d := by rw [h.2]
theorem Tw.durable {f : Int} : dDurable (fromR r) f = dDurable d f := by rw [h.2]
theorem Tw.onn : decide (d.1 = true ∧ d.2.1 = false) = decide ((fromR r).1 = true ∧ (fromR r).2.1 = false) := by rw [h.2]
end
end
section
set_option linter.unusedVariables false
set_option linter.unusedSimpArgs false
set_option maxRecDepth 4000
theorem fnOk10 : fnOk Try.prog 10 = true := by kernel_rfl
theorem fnOk11 : fnOk Try.prog 11 = true := by kernel_rfl
theorem fnOk22 : fnOk Try.prog 22 = true := by kernel_rfl
theorem fnOk8 : fnOk Try.prog 8 = true := by kernel_rfl
theorem small19_ok (W : World) {v0 : List Value} {d0 : DSection} (h0 : Rd TSection (wm W) v0 d0) : CallR Try.prog 13 [.agg v0.toArray] W (mnil) (fun v m' => v = .bool (decide (smallS d0))) := by
 obtain ⟨p0_A2, p0_c2, rfl, p0_0, p0_1, p0_2⟩ := open_Section (x0 := d0.1) (x1 := d0.2.1) (x2 := d0.2.2) h0
 simp only [inK] at p0_0 p0_1
 have p0_r2 := Rd.room p0_2
 refine CallR.ofA (n := 23) Try.func13 rfl rfl rfl ?_
 refine VC.rs ?_
 refine VO.box (cs := [.int .i64 (d0.1), .int .i64 (d0.2.1), .slice p0_A2 (d0.2.2.length) (p0_c2)]) 102 rfl rfl rfl (fun g1 => ?_)
 refine VO.as (VO.k3 0 1 2 (VC.seq (VC.rs (VO.as (VO.k4 0 1 2 3 (VC.block ?_))))))
 refine VC.loop (G := Nat) (fun k => [(3, .int .i64 (((k : Nat) : Int))), (0, .agg [.int .i64 (d0.1), .int .i64 (d0.2.1), .slice p0_A2 (d0.2.2.length) (p0_c2)].toArray), (1, .pointer (some ⟨g1, 0, none⟩))]) (fun k => [(102, mone g1 (.cells #[.int .i64 (d0.1), .int .i64 (d0.2.1), .slice p0_A2 (d0.2.2.length) (p0_c2)] 24 (0, 0))), (0, wm W)]) (fun k => (k ≤ d0.2.2.length) ∧ (∀ c ∈ d0.2.2.take k, c.2.2.length ≤ 40)) (fun k => d0.2.2.length - k) 0 (⟨by omega, by simp⟩) ⟨⟨rfl, rfl, rfl, trivial⟩, fun _ h => h.sub [102, 0]⟩ ?_
 rintro k ⟨hk, ha⟩
 refine VC.seq (VC.rs (VO.mv (VO.y rfl (.fa rfl tst24 rfl) (VO.y rfl (.ld1 102 rfl tk22 rfl (cellsAt_one rfl rfl)) ?_))))
 refine VO.y rfl (.lenS rfl tsl22) ?_
 refine VO.y rfl (.lss rfl rfl) ?_
 refine VO.kp [102, 0] [(102, mone g1 (.cells #[.int .i64 (d0.1), .int .i64 (d0.2.1), .slice p0_A2 (d0.2.2.length) (p0_c2)] 24 (0, 0))), (0, wm W)] ?_
 refine VO.k4 0 1 3 8 ?_
 refine VC.cond rfl (fun hc3 => ?_) (fun hc3 => ?_)
 refine VC.skip (outN (VC.seq (VC.block (VC.rs (VO.y rfl (.fa rfl tst24 rfl) (VO.y rfl (.ld1 102 rfl tk22 rfl (cellsAt_one rfl rfl)) (VO.mv ?_)))))))
 obtain ⟨x4, hx4⟩ : ∃ z_, (d0.2.2)[k]? = some z_ := ⟨_, List.getElem?_eq_getElem bd⟩
 obtain ⟨gg4, oo4, ec4, ea4, hce4, hre4⟩ := p0_2.elem hx4
 cases ea4
 obtain ⟨q4_A2, q4_c2, rfl, q4_0, q4_1, q4_2⟩ := open_Commit (x0 := x4.1) (x1 := x4.2.1) (x2 := x4.2.2) hre4
 simp only [inK] at q4_0 q4_1
 have q4_r2 := Rd.room q4_2
 refine VO.y rfl (.ixI k rfl rfl tsl22 rfl bd) ?_
 refine VO.y rfl (.fa rfl tst32 rfl) ?_
 refine VO.y rfl (.ld1 0 rfl tk30 rfl (hce4.at1 (j := 2) rfl)) ?_
 refine VO.y rfl (.lenS rfl tsl30) ?_
 refine VO.y rfl (.gtr rfl rfl) (VO.k5 0 1 3 8 18 ?_)
 refine VC.cond rfl (fun hc5 => ?_) (fun hc5 => ?_)
 · refine VC.rs (VO.as (VO.k6 0 1 2 3 8 18 (VC.ret (outBR (outR (outR (outBR (outR ?_))))))))
   refine ⟨_, _, res_run (rs := [.tmp 2]) rfl (.tmp rfl .nil), fun W_ hI => out_of (l := []) hI [] rfl rfl (mle_refl _) (fun hS_ => ?_)⟩
   dsimp only [packV]
   all_goals (first | rfl | (first | exact congrArg Value.bool (decide_eq_false (fun e => by have := e.1 _ (List.mem_of_getElem? ‹d0.2.2[k]? = some _›); omega)).symm | exact congrArg Value.bool (decide_eq_false (fun e => by have := e.2; omega)).symm | exact congrArg Value.bool (decide_eq_decide.2 (by have ha2 := ha; rw [List.take_of_length_le (by omega)] at ha2; exact ⟨fun h => ⟨ha2, by omega⟩, fun h => by have := h.2; omega⟩))))
 refine VC.skip (outBN (outN ?_))
 refine VC.reg ?_
 refine VO.mv ?_
 refine VO.y rfl (.add (c := ((k + 1 : Nat) : Int)) rfl rfl (by omega) ⟨bd, bd⟩) ?_
 refine VO.as (VO.k5 0 1 3 8 18 ?_)
 exact outN ⟨k + 1, ⟨by omega, by exact all_next ha ‹d0.2.2[k]? = some _› (by omega)⟩, bd, ⟨⟨rfl, rfl, rfl, trivial⟩, fun _ h => Inv.sub h [102, 0]⟩⟩
 · refine VC.exit (outE (outE (outBB (outN (VC.rs (VO.y rfl (.fa rfl tst24 rfl) (VO.y rfl (.ld1 102 rfl tk22 rfl (cellsAt_one rfl rfl)) ?_)))))))
   refine VO.y rfl (.lenS rfl tsl22) ?_
   refine VO.y rfl (.leq rfl rfl) (VO.as (VO.k5 0 1 2 3 8 (VC.ret ?_)))
   refine ⟨_, _, res_run (rs := [.tmp 2]) rfl (.tmp rfl .nil), fun W_ hI => out_of (l := []) hI [] rfl rfl (mle_refl _) (fun hS_ => ?_)⟩
   dsimp only [packV]
   all_goals (first | rfl | (first | exact congrArg Value.bool (decide_eq_false (fun e => by have := e.1 _ (List.mem_of_getElem? ‹d0.2.2[k]? = some _›); omega)).symm | exact congrArg Value.bool (decide_eq_false (fun e => by have := e.2; omega)).symm | exact congrArg Value.bool (decide_eq_decide.2 (by have ha2 := ha; rw [List.take_of_length_le (by omega)] at ha2; exact ⟨fun h => ⟨ha2, by omega⟩, fun h => by have := h.2; omega⟩))))
theorem put19_ok (W : World) (d0 : Int) (h0 : inK .i64 d0) (d1 : Int) (h1 : inK .i64 d1) : CallR Try.prog 10 [.int .i64 d0, .int .i64 d1] W (mnil) (fun v m' => ∃ (s0 : List Value), v = .agg s0.toArray ∧ Ow TCommit m' s0 (ofC d0 d1)) := by
 have h0' := h0; simp only [inK] at h0'
 have h1' := h1; simp only [inK] at h1'
 refine CallR.ofA (n := 10) Try.func10 rfl rfl rfl ?_
 refine VC.rs ?_
 refine VO.alloc 102 rfl tz32 (fun g1 => ?_)
 refine VO.k3 0 1 4 (VC.rs (VO.mv (VO.mv ?_)))
 refine VO.y rfl (.bst (cs := [.bool true, str ([97]), str ([49])]) rfl tst78 tz78 rfl) ?_
 refine VO.bsl (cs := [Value.bool true, str ([97]), str ([49])]) 104 rfl rfl tsl30 tz78 rfl rfl (fun g3 => ?_)
 refine VO.y rfl (.bst (cs := [.int .i64 (d0), .int .i64 (d1), .slice (some ⟨g3, 0, none⟩) (1) (1)]) rfl tst32 tz32 rfl) ?_
 refine VO.store (k := 3) (c' := [Value.int .i64 (d0), Value.int .i64 (d1), Value.slice (some ⟨g3, 0, none⟩) (1) (1)]) 102 rfl rfl (.inl tk32) rfl rfl rfl rfl rfl ?_
 refine VO.k3 0 1 4 (VC.ret ?_)
 have ho5 : OwnL TOp (mone g3 (.cells [Value.bool true, str ([97]), str ([49])].toArray 78 (0, 0))) mnil (Value.slice (some ⟨g3, 0, none⟩) (1) (1)) [(true, [97], [49])] := OwnL.lit 1 (All2c.cons (c1 := [Value.bool true, str ([97]), str ([49])]) (mk_Op (m := _) true ([97]) ([49]) bdm bdm) All2c.nil) rfl rfl
 refine ⟨_, _, res_run (rs := [.cell 4 32]) rfl (.agg 102 rfl tk32 rfl ⟨_, _, _, mone_self _ _, Nat.le_of_ble_eq_true rfl, rfl⟩ .nil), fun W_ hI => out_of (l := [mone g3 (.cells #[.bool true, str ([97]), str ([49])] 78 (0, 0))]) hI [104] rfl rfl (mle_refl _) (fun hS_ => ?_)⟩
 dsimp only [packV]
 have he0 : (ofC d0 d1 : Ty.Den TCommit) = (d0, d1, [(true, [97], [49])]) := by first | rfl | (simp [*]; done)
 refine ⟨[Value.int .i64 (d0), Value.int .i64 (d1), Value.slice (some ⟨g3, 0, none⟩) (1) (1)], ?_, ?_⟩
 rotate_left
 · rw [he0]; exact (mkO_Commit d0 d1 ([(true, [97], [49])]) hS_ bdk bdk (OwnL.ow ho5 rfl))
 all_goals (first | rfl | (simp [*]; done))
theorem example19_ok (W : World) : CallR Try.prog 8 [] W (mnil) (fun v m' => ∃ (s0 : List Value), ∃ (s1 : Value), ∃ (p0 : Mem), ∃ (p1 : Mem), v = .tuple #[.agg s0.toArray, s1] ∧ Seps m' [p0, p1] ∧ Ow TSection p0 s0 (exS) ∧ Ow (.sl .byte) p1 [s1] (exSB)) := by
 refine CallR.ofA (n := 6) Try.func8 rfl rfl rfl ?_
 refine VC.rs ?_
 refine VO.alloc 102 rfl tz24 (fun g1 => ?_)
 refine VO.as (VO.k2 0 1 (VC.rs ?_))
 refine VO.callN 103 rfl fnOk10 rfl (fun W hW => put19_ok W 1 bdk 2 bdk) (fun v3 m3 hv3 => ?_)
 obtain ⟨s3_0, rfl, f3_0⟩ := hv3
 obtain ⟨q3_0_A2, q3_0_c2, q3_0_n2, rfl, q3_0_S, q3_0_0, q3_0_1, q3_0_2⟩ := openO_Commit (x0 := (ofC 1 2).1) (x1 := (ofC 1 2).2.1) (x2 := (ofC 1 2).2.2) f3_0
 simp only [inK] at q3_0_0 q3_0_1
 have q3_0_r2 := q3_0_2.rm
 refine VO.inv _ (fun _ h => h.parts (i := 103) rfl q3_0_S [104]) ?_
 refine VO.bsl (cs := [Value.int .i64 ((ofC 1 2).1), Value.int .i64 ((ofC 1 2).2.1), Value.slice q3_0_A2 (((ofC 1 2).2.2).length) (q3_0_c2)]) 106 rfl rfl tsl22 tz32 rfl rfl (fun g5 => ?_)
 refine VO.gather (l := [mone g5 (.cells [Value.int .i64 ((ofC 1 2).1), Value.int .i64 ((ofC 1 2).2.1), Value.slice q3_0_A2 (((ofC 1 2).2.2).length) (q3_0_c2)].toArray 32 (0, 0)), q3_0_n2]) 108 [106, 104] rfl (fun hg7 => ?_)
 have ho7 : Ow (.sl TCommit) (muns [mone g5 (.cells [Value.int .i64 ((ofC 1 2).1), Value.int .i64 ((ofC 1 2).2.1), Value.slice q3_0_A2 (((ofC 1 2).2.2).length) (q3_0_c2)].toArray 32 (0, 0)), q3_0_n2]) [Value.slice (some ⟨g5, 0, none⟩) (1) (1)] [(ofC 1 2)] := Ow.lit 1 (Seps.grp1 (ls := [[q3_0_n2]]) hg7) (OwAs.cons (m := muns [q3_0_n2]) (c1 := [Value.int .i64 ((ofC 1 2).1), Value.int .i64 ((ofC 1 2).2.1), Value.slice q3_0_A2 (((ofC 1 2).2.2).length) (q3_0_c2)]) (show Ow TCommit _ _ (ofC 1 2) from (mkO_Commit ((ofC 1 2).1) ((ofC 1 2).2.1) ((ofC 1 2).2.2) (Seps.self hg7 (List.Sublist.cons _ (List.Sublist.cons_cons _ List.Sublist.slnil))) bdk bdk (OwnL.ow (Ow.ownl q3_0_2 rfl mnil) rfl))) OwAs.nil) rfl rfl
 refine VO.y rfl (.bst (cs := [.int .i64 (2), .int .i64 (1), .slice (some ⟨g5, 0, none⟩) (1) (1)]) rfl tst24 tz24 rfl) ?_
 refine VO.bsl (cs := [Value.int .u8 (3), Value.int .u8 (2), Value.int .u8 (1), Value.int .u8 (1), Value.int .u8 (9), Value.int .u8 (1), Value.int .u8 (2), Value.int .u8 (1), Value.int .u8 (1), Value.int .u8 (0), Value.int .u8 (1), Value.int .u8 (97), Value.int .u8 (1), Value.int .u8 (49)]) 110 rfl rfl tsl25 tz5 rfl rfl (fun g9 => ?_)
 refine VO.store (k := 3) (c' := [Value.int .i64 (2), Value.int .i64 (1), Value.slice (some ⟨g5, 0, none⟩) (1) (1)]) 102 rfl rfl (.inl tk24) rfl rfl rfl rfl rfl ?_
 refine VO.as (VO.k2 0 1 (VC.ret ?_))
 have ho11 : OwnL .byte (mone g9 (.cells [Value.int .u8 (3), Value.int .u8 (2), Value.int .u8 (1), Value.int .u8 (1), Value.int .u8 (9), Value.int .u8 (1), Value.int .u8 (2), Value.int .u8 (1), Value.int .u8 (1), Value.int .u8 (0), Value.int .u8 (1), Value.int .u8 (97), Value.int .u8 (1), Value.int .u8 (49)].toArray 5 (0, 0))) mnil (Value.slice (some ⟨g9, 0, none⟩) (14) (14)) [UInt8.ofNat 3, UInt8.ofNat 2, UInt8.ofNat 1, UInt8.ofNat 1, UInt8.ofNat 9, UInt8.ofNat 1, UInt8.ofNat 2, UInt8.ofNat 1, UInt8.ofNat 1, UInt8.ofNat 0, UInt8.ofNat 1, UInt8.ofNat 97, UInt8.ofNat 1, UInt8.ofNat 49] := OwnL.lit 14 (All2c.cons (c1 := [Value.int .u8 (3)]) (rd_byteN bd) (All2c.cons (c1 := [Value.int .u8 (2)]) (rd_byteN bd) (All2c.cons (c1 := [Value.int .u8 (1)]) (rd_byteN bd) (All2c.cons (c1 := [Value.int .u8 (1)]) (rd_byteN bd) (All2c.cons (c1 := [Value.int .u8 (9)]) (rd_byteN bd) (All2c.cons (c1 := [Value.int .u8 (1)]) (rd_byteN bd) (All2c.cons (c1 := [Value.int .u8 (2)]) (rd_byteN bd) (All2c.cons (c1 := [Value.int .u8 (1)]) (rd_byteN bd) (All2c.cons (c1 := [Value.int .u8 (1)]) (rd_byteN bd) (All2c.cons (c1 := [Value.int .u8 (0)]) (rd_byteN bd) (All2c.cons (c1 := [Value.int .u8 (1)]) (rd_byteN bd) (All2c.cons (c1 := [Value.int .u8 (97)]) (rd_byteN bd) (All2c.cons (c1 := [Value.int .u8 (1)]) (rd_byteN bd) (All2c.cons (c1 := [Value.int .u8 (49)]) (rd_byteN bd) All2c.nil)))))))))))))) rfl rfl
 refine ⟨_, _, res_run (rs := [.cell 0 24, .tmp 1]) rfl (.agg 102 rfl tk24 rfl ⟨_, _, _, mone_self _ _, Nat.le_of_ble_eq_true rfl, rfl⟩ (.tmp rfl .nil)), fun W_ hI => out_of (l := [muns [mone g5 (.cells #[.int .i64 ((ofC 1 2).1), .int .i64 ((ofC 1 2).2.1), .slice q3_0_A2 (((ofC 1 2).2.2).length) (q3_0_c2)] 32 (0, 0)), q3_0_n2], mone g9 (.cells #[.int .u8 (3), .int .u8 (2), .int .u8 (1), .int .u8 (1), .int .u8 (9), .int .u8 (1), .int .u8 (2), .int .u8 (1), .int .u8 (1), .int .u8 (0), .int .u8 (1), .int .u8 (97), .int .u8 (1), .int .u8 (49)] 5 (0, 0))]) hI [108, 110] rfl rfl (mle_refl _) (fun hS_ => ?_)⟩
 dsimp only [packV]
 have he0 : (exS : Ty.Den TSection) = (2, 1, [(ofC 1 2)]) := by first | rfl | (simp [*]; done)
 have he1 : (exSB : Ty.Den (.sl .byte)) = [UInt8.ofNat 3, UInt8.ofNat 2, UInt8.ofNat 1, UInt8.ofNat 1, UInt8.ofNat 9, UInt8.ofNat 1, UInt8.ofNat 2, UInt8.ofNat 1, UInt8.ofNat 1, UInt8.ofNat 0, UInt8.ofNat 1, UInt8.ofNat 97, UInt8.ofNat 1, UInt8.ofNat 49] := by first | rfl | (simp [*]; done)
 refine ⟨[Value.int .i64 (2), Value.int .i64 (1), Value.slice (some ⟨g5, 0, none⟩) (1) (1)], Value.slice (some ⟨g9, 0, none⟩) (14) (14), muns [muns [mone g5 (.cells [Value.int .i64 ((ofC 1 2).1), Value.int .i64 ((ofC 1 2).2.1), Value.slice q3_0_A2 (((ofC 1 2).2.2).length) (q3_0_c2)].toArray 32 (0, 0)), q3_0_n2]], muns [mone g9 (.cells [Value.int .u8 (3), Value.int .u8 (2), Value.int .u8 (1), Value.int .u8 (1), Value.int .u8 (9), Value.int .u8 (1), Value.int .u8 (2), Value.int .u8 (1), Value.int .u8 (1), Value.int .u8 (0), Value.int .u8 (1), Value.int .u8 (97), Value.int .u8 (1), Value.int .u8 (49)].toArray 5 (0, 0))], ?_, ?_, ?_, ?_⟩
 rotate_left
 · exact Seps.grp (ls := [[muns [mone g5 (.cells [Value.int .i64 ((ofC 1 2).1), Value.int .i64 ((ofC 1 2).2.1), Value.slice q3_0_A2 (((ofC 1 2).2.2).length) (q3_0_c2)].toArray 32 (0, 0)), q3_0_n2]], [mone g9 (.cells [Value.int .u8 (3), Value.int .u8 (2), Value.int .u8 (1), Value.int .u8 (1), Value.int .u8 (9), Value.int .u8 (1), Value.int .u8 (2), Value.int .u8 (1), Value.int .u8 (1), Value.int .u8 (0), Value.int .u8 (1), Value.int .u8 (97), Value.int .u8 (1), Value.int .u8 (49)].toArray 5 (0, 0))]]) hS_
 · rw [he0]; exact (mkO_Section 2 1 ([(ofC 1 2)]) (Seps.self hS_ (List.Sublist.cons_cons _ (List.Sublist.cons _ List.Sublist.slnil))) bdk bdk ho7)
 · rw [he1]; exact (Ow.up (OwnL.ow ho11 rfl) ((Seps.self hS_ (List.Sublist.cons _ (List.Sublist.cons_cons _ List.Sublist.slnil))).1 _ (.head _)))
 all_goals (first | rfl | (simp [*]; done))
theorem fin2_lives19_ok {P : Prop} (h : P := by first | omega | (simp only [List.length_append, List.length_nil, List.length_cons, List.length_take, List.length_drop] at *; omega) | (have : exC.length = 6 := rfl; omega) | decide | (have : exSB.length = 14 := rfl; omega)) : P := h
theorem lives19_ok (W : World) : CallR Try.prog 11 [] W (mnil) (fun v m' => v = .bool true) := by
 refine CallR.ofA (n := 41) Try.func11 rfl rfl rfl ?_
 refine VC.rs (VO.as (VO.k1 0 (VC.rs ?_)))
 refine VO.callN 101 rfl fnOk8 rfl (fun W hW => example19_ok W ) (fun v1 m1 hv1 => ?_)
 obtain ⟨s1_0, s1_1, p1_0, p1_1, rfl, hS1, f1_0, f1_1⟩ := hv1
 refine VO.inv _ (fun _ h => h.parts (i := 101) rfl hS1 [102, 103]) ?_
 obtain ⟨q1_0_A2, q1_0_c2, q1_0_n2, rfl, q1_0_S, q1_0_0, q1_0_1, q1_0_2⟩ := openO_Section (x0 := exS.1) (x1 := exS.2.1) (x2 := exS.2.2) f1_0
 simp only [inK] at q1_0_0 q1_0_1
 have q1_0_r2 := q1_0_2.rm
 refine VO.inv _ (fun _ h => h.parts (i := 102) rfl q1_0_S [104]) ?_
 obtain ⟨A1_1, c1_1, eq1_1, l1_1, k1_1⟩ := f1_1.slice
 subst eq1_1
 simp only [maxLen] at k1_1
 refine VO.mv (VO.y rfl (.ext rfl rfl) (VO.y rfl (.ext rfl rfl) ?_))
 refine VO.alloc 106 rfl tz24 (fun g5 => ?_)
 refine VO.store (k := 3) (c' := [Value.int .i64 (exS.1), Value.int .i64 (exS.2.1), Value.slice q1_0_A2 (exS.2.2.length) (q1_0_c2)]) 106 rfl rfl (.inl tk24) rfl rfl rfl rfl rfl ?_
 refine VO.as (VO.k3 0 1 2 (VC.rs (VO.y rfl (.ldA 106 rfl tk24 rfl (cellsAt_one rfl rfl)) ?_)))
 refine VO.callN 107 rfl fnOk16 rfl (fun W hW => sectEncode_ok W (show Rd TSection _ _ exS from (mk_Section (m := wm W) exS.1 exS.2.1 exS.2.2 (by simp only [inK]; (exact fin2_lives19_ok)) (by simp only [inK]; (exact fin2_lives19_ok)) (Ow.rd q1_0_2 (hW.at (i := 104) rfl))))) (fun v7 m7 hv7 => ?_)
 obtain ⟨s7_0, rfl, f7_0⟩ := hv7
 have hfa8 := sectEncode_len exS
 obtain ⟨A7_0, c7_0, eq7_0, l7_0, k7_0⟩ := f7_0.slice
 subst eq7_0
 simp only [maxLen] at k7_0
 refine VO.mv (VO.y rfl (.ext rfl rfl) (VO.y rfl (.ext rfl rfl) (VO.as (VO.as ?_))))
 refine VO.kp [107, 106, 104, 103, 0] [(107, m7), (106, mone g5 (.cells #[.int .i64 (exS.1), .int .i64 (exS.2.1), .slice q1_0_A2 (exS.2.2.length) (q1_0_c2)] 24 (0, 0))), (104, q1_0_n2), (103, p1_1), (0, wm W)] ?_
 refine VO.k5 0 1 2 3 4 (VC.rs (VO.mv ?_))
 refine VO.bsl (cs := [Value.int .u8 (3), Value.int .u8 (3), Value.int .u8 (1), Value.int .u8 (1)]) 110 rfl rfl tsl25 tz5 rfl rfl (fun g9 => ?_)
 obtain ⟨mo11, cs11, hM11, hA11, hC11⟩ := (Ow.ownl f1_1 rfl mnil)
 refine VO.appK 103 rfl rfl rfl tsl25 tz5 rfl rfl hM11 hA11 (.row 110 _ _ _ 4 4 _ _ Try.underlying25 rfl (cellsAt_one rfl rfl)) (by simp [Value.oneCell']) (by simp only [maxLen]; (exact fin2_lives19_ok)) (by exact fin2_lives19_ok) (by decide) (fun v11 m11 mk11 hmk11 hN11 hK11 => ?_)
 have ho11 : OwnL .byte mk11 mnil v11 (exSB ++ [UInt8.ofNat 3, UInt8.ofNat 3, UInt8.ofNat 1, UInt8.ofNat 1]) := OwnL.more (ys := [UInt8.ofNat 3, UInt8.ofNat 3, UInt8.ofNat 1, UInt8.ofNat 1]) hC11 hN11 (All2c.cons (c1 := [Value.int .u8 (3)]) (rd_byteN (by exact fin2_lives19_ok)) (All2c.cons (c1 := [Value.int .u8 (3)]) (rd_byteN (by exact fin2_lives19_ok)) (All2c.cons (c1 := [Value.int .u8 (1)]) (rd_byteN (by exact fin2_lives19_ok)) (All2c.cons (c1 := [Value.int .u8 (1)]) (rd_byteN (by exact fin2_lives19_ok)) All2c.nil))))
 replace ho11 := OwnL.up ho11 hmk11
 have hkp11 : Rd (.sl .byte) (m11) [Value.slice A1_1 (exSB.length) (c1_1)] exSB := KeptA.rd hK11 (All2c.mono hC11 fun _ _ h => Rd.flat rfl h _)
 obtain ⟨A11, c11, rfl, l11, k11⟩ := ho11.slice
 simp only [maxLen] at k11
 refine VO.callN 112 rfl fnOk18 rfl (fun W hW => oScan_ok W (OwnL.rd ho11 (hW.at (i := 103) rfl) (mle_nil _)) (by exact fin2_lives19_ok)) (fun v12 m12 hv12 => ?_)
 obtain ⟨s12_0, rfl, f12_0⟩ := hv12
 have hfa13 := scanF_bounds (exSB ++ [UInt8.ofNat 3, UInt8.ofNat 3, UInt8.ofNat 1, UInt8.ofNat 1])
 obtain ⟨A12_0, c12_0, eq12_0, l12_0, k12_0⟩ := f12_0.slice
 subst eq12_0
 simp only [maxLen] at k12_0
 refine VO.mv (VO.y rfl (.ext rfl rfl) (VO.y rfl (.ext rfl rfl) (VO.as (VO.as (VO.k7 0 1 2 3 4 5 6 (VC.rs (VO.mv (VO.y rfl (.eql rfl rfl) (VO.mv ?_)))))))))
 refine VO.dec (t := 25) rfl (fun hc14 => ?_) (fun hc14 => ?_)
 refine VO.gy rfl ⟨_, rfl, rfl⟩ (.mv rfl) (VO.gy rfl ⟨_, rfl, rfl⟩ (.mv rfl) ?_)
 have hs15 := hkp11.pre (j := 14) (by exact fin2_lives19_ok)
 refine VO.gy rfl ⟨_, rfl, rfl⟩ (.slHI 14 rfl rfl tsl25 rfl (by exact fin2_lives19_ok)) ?_
 refine VO.gcallN 116 rfl ⟨_, rfl, rfl⟩ fnOk21 rfl (fun W hW => SameBytes_ok W (OwnL.rd (Ow.ownl f7_0 rfl mnil) (hW.at (i := 107) rfl) (mle_nil _)) (Rd.mono hs15 (hW.at (i := 103) rfl))) (fun v16 m16 hv16 => ?_)
 subst hv16
 refine VO.y rfl (.pT rfl rfl) (VO.mv ?_)
 refine VO.dec (t := 31) rfl (fun hc17 => ?_) (fun hc17 => ?_)
 refine VO.gy rfl ⟨_, rfl, rfl⟩ (.mv rfl) (VO.gy rfl ⟨_, rfl, rfl⟩ (.eql rfl rfl) (VO.y rfl (.pT rfl rfl) (VO.mv ?_)))
 refine VO.dec (t := 35) rfl (fun hc18 => ?_) (fun hc18 => ?_)
 · refine VO.gy rfl ⟨_, rfl, rfl⟩ (.mv rfl) ?_
   refine VO.gy rfl ⟨_, rfl, rfl⟩ (.ldA 106 rfl tk24 rfl (cellsAt_one rfl rfl)) ?_
   refine VO.gbsl (cs := [Value.int .i64 (exS.1), Value.int .i64 (exS.2.1), Value.slice q1_0_A2 (exS.2.2.length) (q1_0_c2)]) 120 rfl ⟨_, rfl, rfl⟩ rfl tsl41 tz24 rfl rfl (fun g19 => ?_)
   refine VO.gather (l := [mone g19 (.cells [Value.int .i64 (exS.1), Value.int .i64 (exS.2.1), Value.slice q1_0_A2 (exS.2.2.length) (q1_0_c2)].toArray 24 (0, 0)), q1_0_n2]) 123 [120, 104] rfl (fun hg22 => ?_)
   have ho22 : Ow (.sl TSection) (muns [mone g19 (.cells [Value.int .i64 (exS.1), Value.int .i64 (exS.2.1), Value.slice q1_0_A2 (exS.2.2.length) (q1_0_c2)].toArray 24 (0, 0)), q1_0_n2]) [Value.slice (some ⟨g19, 0, none⟩) (1) (1)] [exS] := Ow.lit 1 (Seps.grp1 (ls := [[q1_0_n2]]) hg22) (OwAs.cons (m := muns [q1_0_n2]) (c1 := [Value.int .i64 (exS.1), Value.int .i64 (exS.2.1), Value.slice q1_0_A2 (exS.2.2.length) (q1_0_c2)]) (show Ow TSection _ _ exS from (mkO_Section exS.1 exS.2.1 exS.2.2 (Seps.self hg22 (List.Sublist.cons _ (List.Sublist.cons_cons _ List.Sublist.slnil))) (by simp only [inK]; (exact fin2_lives19_ok)) (by simp only [inK]; (exact fin2_lives19_ok)) q1_0_2)) OwAs.nil) rfl rfl
   refine VO.gcallN 121 rfl ⟨_, rfl, rfl⟩ fnOk22 rfl (fun W hW => SameSections_ok W (Ow.rd f12_0 (hW.at (i := 112) rfl)) (Ow.rd ho22 (hW.at (i := 123) rfl))) (fun v21 m21 hv21 => ?_)
   subst hv21
   refine VO.y rfl (.pT rfl rfl) (VO.as (VO.k7 0 1 2 3 4 5 6 (VC.ret ?_)))
   refine ⟨_, _, res_run (rs := [.tmp 0]) rfl (.tmp rfl .nil), fun W_ hI => out_of (l := []) hI [] rfl rfl (mle_refl _) (fun hS_ => ?_)⟩
   dsimp only [packV]
   all_goals (first | rfl | (first | exact congrArg Value.bool (decide_eq_true (by subst_vars; first | rfl | decide | (simp only [ex19E, ex19D, ex19F]; done) | (simp only [ex19E, ex19D, ex19F]; first | rfl | decide) | exact ex19H.1 | (rw [ex19H.1]; done) | (rw [ex19H.2]; done))) | (simp only [ex19H.1, ex19H.2]; rfl)))
 first | exact absurd (by subst_vars; first | rfl | decide | (simp only [ex19E, ex19D, ex19F]; done) | (simp only [ex19E, ex19D, ex19F]; first | rfl | decide) | exact ex19H.1 | (rw [ex19H.1]; done) | (rw [ex19H.2]; done)) hc18 | (rw [ex19H.1] at hc18; cases hc18) | (rw [ex19H.2] at hc18; cases hc18)
 first | exact absurd (by subst_vars; first | rfl | decide | (simp only [ex19E, ex19D, ex19F]; done) | (simp only [ex19E, ex19D, ex19F]; first | rfl | decide) | exact ex19H.1 | (rw [ex19H.1]; done) | (rw [ex19H.2]; done)) hc17 | (rw [ex19H.1] at hc17; cases hc17) | (rw [ex19H.2] at hc17; cases hc17)
 first | exact absurd (by subst_vars; first | rfl | decide | (simp only [ex19E, ex19D, ex19F]; done) | (simp only [ex19E, ex19D, ex19F]; first | rfl | decide) | exact ex19H.1 | (rw [ex19H.1]; done) | (rw [ex19H.2]; done)) hc14 | (rw [ex19H.1] at hc14; cases hc14) | (rw [ex19H.2] at hc14; cases hc14)
end
section
set_option linter.unusedVariables false
set_option linter.unusedSimpArgs false
set_option maxRecDepth 4000
theorem fnOk13 : fnOk Try.prog 13 = true := by kernel_rfl
theorem fnOk14 : fnOk Try.prog 14 = true := by kernel_rfl
theorem fnOk24 : fnOk Try.prog 24 = true := by kernel_rfl
theorem fnOk28 : fnOk Try.prog 28 = true := by kernel_rfl
theorem fnOk29 : fnOk Try.prog 29 = true := by kernel_rfl
theorem fnOk30 : fnOk Try.prog 30 = true := by kernel_rfl
theorem fnOk34 : fnOk Try.prog 34 = true := by kernel_rfl
theorem fnOk39 : fnOk Try.prog 39 = true := by kernel_rfl
theorem fnOk40 : fnOk Try.prog 40 = true := by kernel_rfl
theorem fnOk41 : fnOk Try.prog 41 = true := by kernel_rfl
theorem fnOk42 : fnOk Try.prog 42 = true := by kernel_rfl
theorem fnOk43 : fnOk Try.prog 43 = true := by kernel_rfl
theorem fnOk44 : fnOk Try.prog 44 = true := by kernel_rfl
theorem fnOk45 : fnOk Try.prog 45 = true := by kernel_rfl
theorem fnOk46 : fnOk Try.prog 46 = true := by kernel_rfl
theorem fnOk47 : fnOk Try.prog 47 = true := by kernel_rfl
theorem fnOk48 : fnOk Try.prog 48 = true := by kernel_rfl
theorem fnOk49 : fnOk Try.prog 49 = true := by kernel_rfl
theorem fnOk50 : fnOk Try.prog 50 = true := by kernel_rfl
theorem fin0_orphanWrite_ok {P : Prop} (h : P := by first | omega | (simp only [List.length_append, List.length_nil, List.length_cons, List.length_take, List.length_drop] at *; omega) | (have h_ := (small_room ‹¬ ¬ smallS d2›); omega) | (show wD zeroD ≤ _; decide)) : P := h
set_option maxHeartbeats 4000000 in
theorem orphanWrite_ok (W : World) {v0 : Value} {d0 : List UInt8} (h0 : Rd (.sl .byte) (wm W) [v0] d0) (d1 : Int) (h1 : inK .i64 d1) {v2 : List Value} {d2 : DSection} (h2 : Rd TSection (wm W) v2 d2) (d3 : Int) (h3 : inK .i64 d3) (d4 : Int) (h4 : inK .i64 d4) (d5 : Int) (h5 : inK .i64 d5) : CallR Try.prog 7 [v0, .int .i64 d1, .agg v2.toArray, .int .i64 d3, .int .i64 d4, .int .i64 d5] W (mnil) (fun v m' => v = .bool true) := by
  obtain ⟨A0, c0, rfl, l0, k0⟩ := h0.slice
  simp only [maxLen] at k0
  have h1' := h1; simp only [inK] at h1'
  obtain ⟨p2_A2, p2_c2, rfl, p2_0, p2_1, p2_2⟩ := open_Section (x0 := d2.1) (x1 := d2.2.1) (x2 := d2.2.2) h2
  simp only [inK] at p2_0
  simp only [inK] at p2_1
  have p2_r2 := Rd.room p2_2
  have h3' := h3; simp only [inK] at h3'
  have h4' := h4; simp only [inK] at h4'
  have h5' := h5; simp only [inK] at h5'
  refine CallR.ofA (n := 135) Try.func7 rfl rfl rfl ?_
  refine VC.rs ?_
  refine VO.box (cs := [Value.int .i64 (d2.1), Value.int .i64 (d2.2.1), Value.slice p2_A2 (d2.2.2.length) (p2_c2)]) 102 rfl rfl rfl (fun g1 => ?_)
  refine VO.as ?_
  refine VO.k8 0 1 2 3 4 5 8 12 ?_
  refine VC.seq ?_
  refine VC.rs ?_
  refine VO.callN 103 rfl fnOk11 rfl (fun W hW => lives19_ok W ) (fun v3 m3 hv3 => ?_)
  subst hv3
  refine VO.y rfl (.not rfl) ?_
  refine VO.k9 0 1 2 3 4 5 8 12 18 ?_
  refine VC.condF rfl ?_
  refine VC.skip ?_
  refine outN ?_
  refine VC.seq ?_
  refine VC.rs ?_
  refine VO.y rfl (.ldA 102 rfl tk24 rfl (cellsAt_one rfl rfl)) ?_
  refine VO.callN 104 rfl fnOk13 rfl (fun W hW => small19_ok W (Rd.mono h2 (hW.at (i := 0) rfl))) (fun v4 m4 hv4 => ?_)
  subst hv4
  refine VO.y rfl (.notD rfl) ?_
  refine VO.mv ?_
  refine VO.dec (t := 22) rfl (fun hc5 => ?_) (fun hc5 => ?_)
  · -- T
    refine VO.gN ?_
    refine VO.gN ?_
    refine VO.gN ?_
    refine VO.y rfl (.pT rfl rfl) ?_
    refine VO.kp [102, 0] [(102, mone g1 (.cells [Value.int .i64 (d2.1), Value.int .i64 (d2.2.1), Value.slice p2_A2 (d2.2.2.length) (p2_c2)].toArray 24 (0, 0))), (0, wm W)] ?_
    refine VO.k10 0 1 2 3 4 5 8 12 18 26 ?_
    refine VC.condT rfl ?_
    refine VC.rs ?_
    refine VO.as ?_
    refine VO.k10 0 1 2 3 4 5 8 12 18 26 ?_
    refine VC.ret ?_
    refine outR ?_
    refine ⟨_, _, res_run (rs := [.tmp 12]) rfl (.tmp rfl .nil), fun W_ hI => out_of (l := []) hI [] rfl rfl (mle_refl _) (fun hS_ => ?_)⟩
    dsimp only [packV]
    all_goals (first | rfl | (exact congrArg Value.bool (decide_eq_true (orph_zero _ _))))
  · -- F
    refine VO.gy rfl ⟨_, rfl, rfl⟩ (.mv rfl) ?_
    refine VO.gy rfl ⟨_, rfl, rfl⟩ (.lenS rfl tsl25) ?_
    refine VO.gy rfl ⟨_, rfl, rfl⟩ (.gtr rfl rfl) ?_
    refine VO.y rfl (.pF rfl rfl) ?_
    refine VO.kp [102, 0] [(102, mone g1 (.cells [Value.int .i64 (d2.1), Value.int .i64 (d2.2.1), Value.slice p2_A2 (d2.2.2.length) (p2_c2)].toArray 24 (0, 0))), (0, wm W)] ?_
    refine VO.k10 0 1 2 3 4 5 8 12 18 26 ?_
    refine VC.cond rfl (fun hc6 => ?_) (fun hc6 => ?_)
    · -- FT
      refine VC.rs ?_
      refine VO.as ?_
      refine VO.k10 0 1 2 3 4 5 8 12 18 26 ?_
      refine VC.ret ?_
      refine outR ?_
      refine ⟨_, _, res_run (rs := [.tmp 12]) rfl (.tmp rfl .nil), fun W_ hI => out_of (l := []) hI [] rfl rfl (mle_refl _) (fun hS_ => ?_)⟩
      dsimp only [packV]
      all_goals (first | rfl | (exact congrArg Value.bool (decide_eq_true (orph_zero _ _))))
    · -- FF
      refine VC.skip ?_
      refine outN ?_
      refine VC.rs ?_
      refine VO.callN 107 rfl fnOk28 rfl (fun W hW => dNew_ok W ) (fun v7 m7 hv7 => ?_)
      obtain ⟨s7_0, rfl, f7_0⟩ := hv7
      have hfa8 := okD_new
      have hfa9 := (show wD newD = 0 from rfl)
      refine VO.callN 110 rfl fnOk34 rfl (fun W hW => rNew_ok W ) (fun v10 m10 hv10 => ?_)
      obtain ⟨s10_0, rfl, f10_0⟩ := hv10
      have hfa11 := (show okR newR from okD_new)
      have hfa12 := (show wD (fromR newR) = 0 from rfl)
      refine VO.as ?_
      refine VO.as ?_
      refine VO.k12 0 1 2 3 4 5 8 12 13 14 18 26 ?_
      refine VC.seq ?_
      refine VC.rs ?_
      refine VO.mv ?_
      refine VO.mv ?_
      refine VO.call 107 rfl fnOk35 rfl rfl (fun W hW => dWrite_ok W (hW.at (i := 107) rfl) f7_0 3 (by simp only [inK]; (exact fin0_orphanWrite_ok)) (Rd.mono h0 (hW.out (i := 107) (j := 0) rfl rfl)) (by assumption) (by exact fin0_orphanWrite_ok)) (fun v13 m13 hv13 => ?_)
      obtain ⟨rfl, w13_0⟩ := hv13
      have hfa14 := (write_ok (f := 3) (b := d0) (show okD newD by assumption))
      have hfa15 := (write_w (f := 3) (b := d0) (show okD newD by assumption))
      refine VO.mv ?_
      refine VO.mv ?_
      refine VO.call 110 rfl fnOk36 rfl rfl (fun W hW => rWrite_ok W (hW.at (i := 110) rfl) f10_0 3 (by simp only [inK]; (exact fin0_orphanWrite_ok)) (Rd.mono h0 (hW.out (i := 110) (j := 0) rfl rfl)) (by assumption) (by exact fin0_orphanWrite_ok)) (fun v16 m16 hv16 => ?_)
      obtain ⟨rfl, w16_0⟩ := hv16
      have hfa17 := (ro_write (f := 3) (b := d0) (show okR newR by assumption))
      have hfa18 := (rw_write (f := 3) (b := d0) (show okR newR by assumption))
      refine VO.y rfl (.neq rfl rfl) ?_
      refine VO.mv ?_
      refine VO.dec (t := 36) rfl (fun hc19 => ?_) (fun hc19 => ?_)
      · -- FFT
        exact absurd (tw_new.write (f := 3) (b := d0)).2.symm hc19
      · -- FFF
        refine VO.gy rfl ⟨_, rfl, rfl⟩ (.mv rfl) ?_
        have hm20 := tmod_bounds (d3) (2) (by exact fin0_orphanWrite_ok)
        refine VO.gy rfl ⟨_, rfl, rfl⟩ (.quo (.inr rfl) rfl rfl (rem_int _ _ _ (by exact fin0_orphanWrite_ok))) ?_
        refine VO.gy rfl ⟨_, rfl, rfl⟩ (.eql rfl rfl) ?_
        refine VO.gy rfl ⟨_, rfl, rfl⟩ (.mv rfl) ?_
        refine VO.dec (t := 40) rfl (fun hc21 => ?_) (fun hc21 => ?_)
        · -- FFFT
          refine VO.gy rfl ⟨_, rfl, rfl⟩ (.mv rfl) ?_
          refine VO.gcall 107 rfl ⟨_, rfl, rfl⟩ fnOk37 rfl rfl (fun W hW => dSync_ok W (hW.at (i := 107) rfl) w13_0 (by assumption) (by exact fin0_orphanWrite_ok)) (fun v22 m22 hv22 => ?_)
          obtain ⟨rfl, w22_0⟩ := hv22
          have hfa23 := (sync_ok (show okD ((dWrite newD 3 d0).1) by assumption))
          have hfa24 := (sync_w (show okD ((dWrite newD 3 d0).1) by assumption))
          refine VO.gy rfl ⟨_, rfl, rfl⟩ (.mv rfl) ?_
          refine VO.gcall 110 rfl ⟨_, rfl, rfl⟩ fnOk38 rfl rfl (fun W hW => rSync_ok W (hW.at (i := 110) rfl) w16_0 (by assumption) (by exact fin0_orphanWrite_ok)) (fun v25 m25 hv25 => ?_)
          obtain ⟨rfl, w25_0⟩ := hv25
          have hfa26 := (ro_sync (show okR (toR (dWrite (fromR newR) 3 d0).1 newR.2.2.2.2.2.1) by assumption))
          have hfa27 := (rw_sync (show okR (toR (dWrite (fromR newR) 3 d0).1 newR.2.2.2.2.2.1) by assumption))
          refine VO.gy rfl ⟨_, rfl, rfl⟩ (.neq rfl rfl) ?_
          refine VO.gy rfl ⟨_, rfl, rfl⟩ (.pT rfl rfl) ?_
          refine VO.y rfl (.pF rfl rfl) ?_
          refine VO.mv ?_
          refine VO.dec (t := 48) rfl (fun hc28 => ?_) (fun hc28 => ?_)
          · -- FFFTT
            exact absurd (tw_new.write (f := 3) (b := d0)).1.sync.2.symm hc28
          · -- FFFTF
            refine VO.gy rfl ⟨_, rfl, rfl⟩ (.mv rfl) ?_
            refine VO.gy rfl ⟨_, rfl, rfl⟩ (.mv rfl) ?_
            refine VO.gcall 107 rfl ⟨_, rfl, rfl⟩ fnOk39 rfl rfl (fun W hW => dFuse_ok W (hW.at (i := 107) rfl) w22_0 d3 (by simp only [inK]; (exact fin0_orphanWrite_ok)) (by assumption)) (fun v29 m29 hv29 => ?_)
            obtain ⟨rfl, w29_0⟩ := hv29
            have hfa30 := (fuse_ok (n := d3) (show okD ((dSync ((dWrite newD 3 d0).1)).1) by assumption))
            have hfa31 := (fuse_w ((dSync ((dWrite newD 3 d0).1)).1) d3)
            refine VO.gy rfl ⟨_, rfl, rfl⟩ (.mv rfl) ?_
            refine VO.gy rfl ⟨_, rfl, rfl⟩ (.mv rfl) ?_
            refine VO.gcall 110 rfl ⟨_, rfl, rfl⟩ fnOk40 rfl rfl (fun W hW => rFuse_ok W (hW.at (i := 110) rfl) w25_0 d3 (by simp only [inK]; (exact fin0_orphanWrite_ok)) (by assumption)) (fun v32 m32 hv32 => ?_)
            obtain ⟨rfl, w32_0⟩ := hv32
            have hfa33 := (ro_fuse (n := d3) (show okR (toR (dSync (fromR (toR (dWrite (fromR newR) 3 d0).1 newR.2.2.2.2.2.1))).1 (toR (dWrite (fromR newR) 3 d0).1 newR.2.2.2.2.2.1).2.2.2.2.2.1) by assumption))
            have hfa34 := (rw_fuse (n := d3) (show okR (toR (dSync (fromR (toR (dWrite (fromR newR) 3 d0).1 newR.2.2.2.2.2.1))).1 (toR (dWrite (fromR newR) 3 d0).1 newR.2.2.2.2.2.1).2.2.2.2.2.1) by assumption))
            refine VO.gy rfl ⟨_, rfl, rfl⟩ (.neq rfl rfl) ?_
            refine VO.y rfl (.pF rfl rfl) ?_
            refine VO.k13 0 1 2 3 4 5 8 12 13 14 18 26 56 ?_
            refine VC.cond rfl (fun hc35 => ?_) (fun hc35 => ?_)
            · -- FFFTFT
              exact absurd ((tw_new.write (f := 3) (b := d0)).1.sync.1.fuse (n := d3)).2.symm hc35
            · -- FFFTFF
              refine VC.skip ?_
              refine outN ?_
              refine VC.rs ?_
              refine VO.y rfl (.fa rfl tst24 rfl) ?_
              refine VO.y rfl (.ld1 102 rfl tk22 rfl (cellsAt_one rfl rfl)) ?_
              refine VO.callN 136 rfl fnOk14 rfl (fun W hW => LentCommits_ok W (Rd.mono p2_2 (hW.at (i := 0) rfl)) (by exact fin0_orphanWrite_ok) (by exact (small_room ‹¬ ¬ smallS d2›).2.1)) (fun v36 m36 hv36 => ?_)
              obtain ⟨s36_0, rfl, f36_0⟩ := hv36
              have hfa37 := lent_len d2.2.2
              obtain ⟨A36_0, c36_0, eq36_0, l36_0, k36_0⟩ := f36_0.slice
              subst eq36_0
              simp only [maxLen] at k36_0
              refine VO.as ?_
              refine VO.kp [136, 110, 107, 102, 0] [(136, m36), (110, m32), (107, m29), (102, mone g1 (.cells [Value.int .i64 (d2.1), Value.int .i64 (d2.2.1), Value.slice p2_A2 (d2.2.2.length) (p2_c2)].toArray 24 (0, 0))), (0, wm W)] ?_
              refine VO.k14 0 1 2 3 4 5 8 12 13 14 15 18 26 56 ?_
              refine VC.seq ?_
              refine VC.regD _ 12 [(0, true), (1, true), (2, true), (3, true), (4, true), (5, true), (6, true), (7, true), (8, true), (9, true), (10, true), (11, true)] follows (by kernel_rfl) (fun _ h => h.sub [136, 110, 107, 102, 0]) ?_
              refine VD.y rfl rfl (.inl rfl) (.mv rfl) ?_
              refine VD.y rfl rfl (.inl rfl) (.mv rfl) ?_
              refine VD.y rfl rfl (.inl rfl) (.fa rfl tst24 rfl) ?_
              refine VD.y rfl rfl (.inl rfl) (.ld1 102 rfl tk3 rfl (cellsAt_one rfl rfl)) ?_
              refine VD.y rfl rfl (.inl rfl) (.fa rfl tst24 rfl) ?_
              refine VD.y rfl rfl (.inl rfl) (.ld1 102 rfl tk3 rfl (cellsAt_one rfl rfl)) ?_
              refine VD.y rfl rfl (.inl rfl) (.mv rfl) ?_
              refine VD.y rfl rfl (.inl rfl) (.fa rfl tst24 rfl) ?_
              refine VD.y rfl rfl (.inl rfl) (.ld1 102 rfl tk22 rfl (cellsAt_one rfl rfl)) ?_
              refine VD.y rfl rfl (.inl rfl) (.lenS rfl tsl22) ?_
              have hs38 := (Ow.rd f36_0 (mle_refl _)).pre (j := d2.2.2.length) (by exact fin0_orphanWrite_ok)
              refine VD.y rfl rfl (.inl rfl) (.slHI d2.2.2.length rfl rfl tsl22 rfl (by exact fin0_orphanWrite_ok)) ?_
              refine VD.y rfl rfl (.inl rfl) (.bst (cs := [Value.int .i64 (d2.1), Value.int .i64 (d2.2.1), Value.slice A36_0 (d2.2.2.length) (c36_0)]) rfl tst24 tz24 rfl) ?_
              refine VD.nil rfl ?_ rfl
              refine VO.call 107 rfl fnOk29 rfl rfl (fun W hW => oWrite_ok W (hW.at (i := 107) rfl) w29_0 d1 (by simp only [inK]; (exact fin0_orphanWrite_ok)) (show Rd TSection _ _ d2 from (mk_Section (m := mout (wm W) (m29)) d2.1 d2.2.1 d2.2.2 (by simp only [inK]; (exact fin0_orphanWrite_ok)) (by simp only [inK]; (exact fin0_orphanWrite_ok)) (lent_rd (Ow.rd (f36_0.pre (j := d2.2.2.length) (by exact fin0_orphanWrite_ok)) (hW.out (i := 107) (j := 136) rfl rfl))))) (by first | assumption | exact okD_zero) (by exact fin0_orphanWrite_ok)) (fun v39 m39 hv39 => ?_)
              obtain ⟨rfl, w39_0⟩ := hv39
              have hfa40 := (orphW_ok (base := d1) (s := d2) (show okD ((dFuse ((dSync ((dWrite newD 3 d0).1)).1) d3).1) by assumption))
              have hfa41 := (orphW_w (base := d1) (s := d2) (show okD ((dFuse ((dSync ((dWrite newD 3 d0).1)).1) d3).1) by assumption))
              refine VO.as ?_
              refine VO.k15 0 1 2 3 4 5 8 12 13 14 15 16 18 26 56 ?_
              refine outN ?_
              refine VC.seq ?_
              refine VC.rs ?_
              refine VO.mv ?_
              refine VO.mv ?_
              refine VO.mv ?_
              refine VO.y rfl (.ldA 102 rfl tk24 rfl (cellsAt_one rfl rfl)) ?_
              refine VO.call 110 rfl fnOk41 rfl rfl (fun W hW => s19Write_ok W (hW.at (i := 110) rfl) w32_0 d1 (by simp only [inK]; (exact fin0_orphanWrite_ok)) (Rd.mono h2 (hW.out (i := 110) (j := 0) rfl rfl)) (by assumption) (by exact fin0_orphanWrite_ok)) (fun v42 m42 hv42 => ?_)
              obtain ⟨rfl, w42_0⟩ := hv42
              have hfa43 := (ro_orphW (b := d1) (s := d2) (show okR (toR (dFuse (fromR (toR (dSync (fromR (toR (dWrite (fromR newR) 3 d0).1 newR.2.2.2.2.2.1))).1 (toR (dWrite (fromR newR) 3 d0).1 newR.2.2.2.2.2.1).2.2.2.2.2.1)) d3).1 (toR (dSync (fromR (toR (dWrite (fromR newR) 3 d0).1 newR.2.2.2.2.2.1))).1 (toR (dWrite (fromR newR) 3 d0).1 newR.2.2.2.2.2.1).2.2.2.2.2.1).2.2.2.2.2.1) by assumption))
              have hfa44 := (rw_orphW (b := d1) (s := d2) (show okR (toR (dFuse (fromR (toR (dSync (fromR (toR (dWrite (fromR newR) 3 d0).1 newR.2.2.2.2.2.1))).1 (toR (dWrite (fromR newR) 3 d0).1 newR.2.2.2.2.2.1).2.2.2.2.2.1)) d3).1 (toR (dSync (fromR (toR (dWrite (fromR newR) 3 d0).1 newR.2.2.2.2.2.1))).1 (toR (dWrite (fromR newR) 3 d0).1 newR.2.2.2.2.2.1).2.2.2.2.2.1).2.2.2.2.2.1) by assumption))
              refine VO.y rfl (.neq rfl rfl) ?_
              refine VO.mv ?_
              refine VO.dec (t := 79) rfl (fun hc45 => ?_) (fun hc45 => ?_)
              · -- FFFTFFT
                exact absurd (((tw_new.write (f := 3) (b := d0)).1.sync.1.fuse (n := d3)).1.orph (b := d1) (s := d2)).2.symm hc45
              · -- FFFTFFF
                refine VO.gy rfl ⟨_, rfl, rfl⟩ (.mv rfl) ?_
                refine VO.gy rfl ⟨_, rfl, rfl⟩ (.fa rfl tst24 rfl) ?_
                refine VO.gy rfl ⟨_, rfl, rfl⟩ (.ld1 102 rfl tk22 rfl (cellsAt_one rfl rfl)) ?_
                refine VO.gcallN 146 rfl ⟨_, rfl, rfl⟩ fnOk24 rfl (fun W hW => KeptCommits_ok W (Ow.rd f36_0 (hW.at (i := 136) rfl)) (Rd.mono p2_2 (hW.at (i := 0) rfl)) (by rfl) (by exact fin0_orphanWrite_ok) (by exact (small_room ‹¬ ¬ smallS d2›).2.1)) (fun v46 m46 hv46 => ?_)
                subst hv46
                refine VO.gy rfl ⟨_, rfl, rfl⟩ (.not rfl) ?_
                refine VO.y rfl (.pF rfl rfl) ?_
                refine VO.mv ?_
                refine VO.gy rfl ⟨_, rfl, rfl⟩ (.mv rfl) ?_
                refine VO.gcall 107 rfl ⟨_, rfl, rfl⟩ fnOk42 rfl rfl (fun W hW => dSteps_ok W (hW.at (i := 107) rfl) w39_0) (fun v47 m47 hv47 => ?_)
                obtain ⟨rfl, w47_0⟩ := hv47
                refine VO.gy rfl ⟨_, rfl, rfl⟩ (.mv rfl) ?_
                refine VO.gcall 110 rfl ⟨_, rfl, rfl⟩ fnOk43 rfl rfl (fun W hW => rSteps_ok W (hW.at (i := 110) rfl) w42_0) (fun v48 m48 hv48 => ?_)
                obtain ⟨rfl, w48_0⟩ := hv48
                refine VO.gy rfl ⟨_, rfl, rfl⟩ (.neq rfl rfl) ?_
                refine VO.y rfl (.pF rfl rfl) ?_
                refine VO.mv ?_
                refine VO.dec (t := 93) rfl (fun hc49 => ?_) (fun hc49 => ?_)
                · -- FFFTFFFT
                  exact absurd (((tw_new.write (f := 3) (b := d0)).1.sync.1.fuse (n := d3)).1.orph (b := d1) (s := d2)).1.steps.symm hc49
                · -- FFFTFFFF
                  refine VO.gy rfl ⟨_, rfl, rfl⟩ (.mv rfl) ?_
                  refine VO.gcall 107 rfl ⟨_, rfl, rfl⟩ fnOk44 rfl rfl (fun W hW => dOn_ok W (hW.at (i := 107) rfl) w47_0) (fun v50 m50 hv50 => ?_)
                  obtain ⟨rfl, w50_0⟩ := hv50
                  refine VO.gy rfl ⟨_, rfl, rfl⟩ (.mv rfl) ?_
                  refine VO.gcall 110 rfl ⟨_, rfl, rfl⟩ fnOk45 rfl rfl (fun W hW => rOn_ok W (hW.at (i := 110) rfl) w48_0) (fun v51 m51 hv51 => ?_)
                  obtain ⟨rfl, w51_0⟩ := hv51
                  refine VO.gy rfl ⟨_, rfl, rfl⟩ (.bneq rfl rfl Try.underlying4) ?_
                  refine VO.y rfl (.pF rfl rfl) ?_
                  refine VO.k16 0 1 2 3 4 5 8 12 13 14 15 16 18 26 56 99 ?_
                  refine VC.cond rfl (fun hc52 => ?_) (fun hc52 => ?_)
                  · -- FFFTFFFFT
                    exact absurd (((tw_new.write (f := 3) (b := d0)).1.sync.1.fuse (n := d3)).1.orph (b := d1) (s := d2)).1.onn hc52
                  · -- FFFTFFFFF
                    refine VC.skip ?_
                    refine outN ?_
                    refine VC.seq ?_
                    refine VC.rs ?_
                    refine VO.mv ?_
                    refine VO.call 107 rfl fnOk46 rfl rfl (fun W hW => dPull_ok W (hW.at (i := 107) rfl) w50_0 (by assumption)) (fun v53 m53 hv53 => ?_)
                    obtain ⟨rfl, w53_0⟩ := hv53
                    have hfa54 := (pull_ok (show okD ((orphW ((dFuse ((dSync ((dWrite newD 3 d0).1)).1) d3).1) d1 d2).1) by assumption))
                    have hfa55 := (pull_w ((orphW ((dFuse ((dSync ((dWrite newD 3 d0).1)).1) d3).1) d1 d2).1))
                    refine VO.mv ?_
                    refine VO.call 110 rfl fnOk47 rfl rfl (fun W hW => rPull_ok W (hW.at (i := 110) rfl) w51_0 (by assumption)) (fun v56 m56 hv56 => ?_)
                    obtain ⟨rfl, w56_0⟩ := hv56
                    have hfa57 := (ro_pull (show okR (toR (orphW (fromR (toR (dFuse (fromR (toR (dSync (fromR (toR (dWrite (fromR newR) 3 d0).1 newR.2.2.2.2.2.1))).1 (toR (dWrite (fromR newR) 3 d0).1 newR.2.2.2.2.2.1).2.2.2.2.2.1)) d3).1 (toR (dSync (fromR (toR (dWrite (fromR newR) 3 d0).1 newR.2.2.2.2.2.1))).1 (toR (dWrite (fromR newR) 3 d0).1 newR.2.2.2.2.2.1).2.2.2.2.2.1).2.2.2.2.2.1)) d1 d2).1 (toR (dFuse (fromR (toR (dSync (fromR (toR (dWrite (fromR newR) 3 d0).1 newR.2.2.2.2.2.1))).1 (toR (dWrite (fromR newR) 3 d0).1 newR.2.2.2.2.2.1).2.2.2.2.2.1)) d3).1 (toR (dSync (fromR (toR (dWrite (fromR newR) 3 d0).1 newR.2.2.2.2.2.1))).1 (toR (dWrite (fromR newR) 3 d0).1 newR.2.2.2.2.2.1).2.2.2.2.2.1).2.2.2.2.2.1).2.2.2.2.2.1) by assumption))
                    have hfa58 := (rw_pull (show okR (toR (orphW (fromR (toR (dFuse (fromR (toR (dSync (fromR (toR (dWrite (fromR newR) 3 d0).1 newR.2.2.2.2.2.1))).1 (toR (dWrite (fromR newR) 3 d0).1 newR.2.2.2.2.2.1).2.2.2.2.2.1)) d3).1 (toR (dSync (fromR (toR (dWrite (fromR newR) 3 d0).1 newR.2.2.2.2.2.1))).1 (toR (dWrite (fromR newR) 3 d0).1 newR.2.2.2.2.2.1).2.2.2.2.2.1).2.2.2.2.2.1)) d1 d2).1 (toR (dFuse (fromR (toR (dSync (fromR (toR (dWrite (fromR newR) 3 d0).1 newR.2.2.2.2.2.1))).1 (toR (dWrite (fromR newR) 3 d0).1 newR.2.2.2.2.2.1).2.2.2.2.2.1)) d3).1 (toR (dSync (fromR (toR (dWrite (fromR newR) 3 d0).1 newR.2.2.2.2.2.1))).1 (toR (dWrite (fromR newR) 3 d0).1 newR.2.2.2.2.2.1).2.2.2.2.2.1).2.2.2.2.2.1).2.2.2.2.2.1) by assumption))
                    refine VO.y rfl (.neq rfl rfl) ?_
                    refine VO.mv ?_
                    refine VO.dec (t := 105) rfl (fun hc59 => ?_) (fun hc59 => ?_)
                    · -- FFFTFFFFFT
                      exact absurd ((((tw_new.write (f := 3) (b := d0)).1.sync.1.fuse (n := d3)).1.orph (b := d1) (s := d2)).1.pull).2.symm hc59
                    · -- FFFTFFFFFF
                      refine VO.gy rfl ⟨_, rfl, rfl⟩ (.mv rfl) ?_
                      refine VO.gy rfl ⟨_, rfl, rfl⟩ (.mv rfl) ?_
                      refine VO.gy rfl ⟨_, rfl, rfl⟩ (.mv rfl) ?_
                      refine VO.gcall 107 rfl ⟨_, rfl, rfl⟩ fnOk48 rfl rfl (fun W hW => dStart_ok W (hW.at (i := 107) rfl) w53_0 d4 (by simp only [inK]; (exact fin0_orphanWrite_ok)) d5 (by simp only [inK]; (exact fin0_orphanWrite_ok)) (by assumption) (by exact fin0_orphanWrite_ok)) (fun v60 m60 hv60 => ?_)
                      obtain ⟨rfl, w60_0⟩ := hv60
                      have hfa61 := (start_ok (k := d4) (t := d5) (show okD ((dPull ((orphW ((dFuse ((dSync ((dWrite newD 3 d0).1)).1) d3).1) d1 d2).1)).1) by assumption))
                      have hfa62 := (start_w ((dPull ((orphW ((dFuse ((dSync ((dWrite newD 3 d0).1)).1) d3).1) d1 d2).1)).1) d4 d5)
                      refine VO.gy rfl ⟨_, rfl, rfl⟩ (.mv rfl) ?_
                      refine VO.gy rfl ⟨_, rfl, rfl⟩ (.mv rfl) ?_
                      refine VO.gy rfl ⟨_, rfl, rfl⟩ (.mv rfl) ?_
                      refine VO.gcall 110 rfl ⟨_, rfl, rfl⟩ fnOk49 rfl rfl (fun W hW => rStart_ok W (hW.at (i := 110) rfl) w56_0 d4 (by simp only [inK]; (exact fin0_orphanWrite_ok)) d5 (by simp only [inK]; (exact fin0_orphanWrite_ok)) (by assumption) (by exact fin0_orphanWrite_ok)) (fun v63 m63 hv63 => ?_)
                      obtain ⟨rfl, w63_0⟩ := hv63
                      have hfa64 := (ro_start (k := d4) (t := d5) (show okR (toR (dPull (fromR (toR (orphW (fromR (toR (dFuse (fromR (toR (dSync (fromR (toR (dWrite (fromR newR) 3 d0).1 newR.2.2.2.2.2.1))).1 (toR (dWrite (fromR newR) 3 d0).1 newR.2.2.2.2.2.1).2.2.2.2.2.1)) d3).1 (toR (dSync (fromR (toR (dWrite (fromR newR) 3 d0).1 newR.2.2.2.2.2.1))).1 (toR (dWrite (fromR newR) 3 d0).1 newR.2.2.2.2.2.1).2.2.2.2.2.1).2.2.2.2.2.1)) d1 d2).1 (toR (dFuse (fromR (toR (dSync (fromR (toR (dWrite (fromR newR) 3 d0).1 newR.2.2.2.2.2.1))).1 (toR (dWrite (fromR newR) 3 d0).1 newR.2.2.2.2.2.1).2.2.2.2.2.1)) d3).1 (toR (dSync (fromR (toR (dWrite (fromR newR) 3 d0).1 newR.2.2.2.2.2.1))).1 (toR (dWrite (fromR newR) 3 d0).1 newR.2.2.2.2.2.1).2.2.2.2.2.1).2.2.2.2.2.1).2.2.2.2.2.1))).1 (toR (orphW (fromR (toR (dFuse (fromR (toR (dSync (fromR (toR (dWrite (fromR newR) 3 d0).1 newR.2.2.2.2.2.1))).1 (toR (dWrite (fromR newR) 3 d0).1 newR.2.2.2.2.2.1).2.2.2.2.2.1)) d3).1 (toR (dSync (fromR (toR (dWrite (fromR newR) 3 d0).1 newR.2.2.2.2.2.1))).1 (toR (dWrite (fromR newR) 3 d0).1 newR.2.2.2.2.2.1).2.2.2.2.2.1).2.2.2.2.2.1)) d1 d2).1 (toR (dFuse (fromR (toR (dSync (fromR (toR (dWrite (fromR newR) 3 d0).1 newR.2.2.2.2.2.1))).1 (toR (dWrite (fromR newR) 3 d0).1 newR.2.2.2.2.2.1).2.2.2.2.2.1)) d3).1 (toR (dSync (fromR (toR (dWrite (fromR newR) 3 d0).1 newR.2.2.2.2.2.1))).1 (toR (dWrite (fromR newR) 3 d0).1 newR.2.2.2.2.2.1).2.2.2.2.2.1).2.2.2.2.2.1).2.2.2.2.2.1).2.2.2.2.2.1) by assumption))
                      have hfa65 := (rw_start (k := d4) (t := d5) (show okR (toR (dPull (fromR (toR (orphW (fromR (toR (dFuse (fromR (toR (dSync (fromR (toR (dWrite (fromR newR) 3 d0).1 newR.2.2.2.2.2.1))).1 (toR (dWrite (fromR newR) 3 d0).1 newR.2.2.2.2.2.1).2.2.2.2.2.1)) d3).1 (toR (dSync (fromR (toR (dWrite (fromR newR) 3 d0).1 newR.2.2.2.2.2.1))).1 (toR (dWrite (fromR newR) 3 d0).1 newR.2.2.2.2.2.1).2.2.2.2.2.1).2.2.2.2.2.1)) d1 d2).1 (toR (dFuse (fromR (toR (dSync (fromR (toR (dWrite (fromR newR) 3 d0).1 newR.2.2.2.2.2.1))).1 (toR (dWrite (fromR newR) 3 d0).1 newR.2.2.2.2.2.1).2.2.2.2.2.1)) d3).1 (toR (dSync (fromR (toR (dWrite (fromR newR) 3 d0).1 newR.2.2.2.2.2.1))).1 (toR (dWrite (fromR newR) 3 d0).1 newR.2.2.2.2.2.1).2.2.2.2.2.1).2.2.2.2.2.1).2.2.2.2.2.1))).1 (toR (orphW (fromR (toR (dFuse (fromR (toR (dSync (fromR (toR (dWrite (fromR newR) 3 d0).1 newR.2.2.2.2.2.1))).1 (toR (dWrite (fromR newR) 3 d0).1 newR.2.2.2.2.2.1).2.2.2.2.2.1)) d3).1 (toR (dSync (fromR (toR (dWrite (fromR newR) 3 d0).1 newR.2.2.2.2.2.1))).1 (toR (dWrite (fromR newR) 3 d0).1 newR.2.2.2.2.2.1).2.2.2.2.2.1).2.2.2.2.2.1)) d1 d2).1 (toR (dFuse (fromR (toR (dSync (fromR (toR (dWrite (fromR newR) 3 d0).1 newR.2.2.2.2.2.1))).1 (toR (dWrite (fromR newR) 3 d0).1 newR.2.2.2.2.2.1).2.2.2.2.2.1)) d3).1 (toR (dSync (fromR (toR (dWrite (fromR newR) 3 d0).1 newR.2.2.2.2.2.1))).1 (toR (dWrite (fromR newR) 3 d0).1 newR.2.2.2.2.2.1).2.2.2.2.2.1).2.2.2.2.2.1).2.2.2.2.2.1).2.2.2.2.2.1) by assumption))
                      refine VO.gy rfl ⟨_, rfl, rfl⟩ (.neq rfl rfl) ?_
                      refine VO.y rfl (.pF rfl rfl) ?_
                      refine VO.kp [110, 107, 136, 102, 0] [(110, m63), (107, m60), (136, m36), (102, mone g1 (.cells [Value.int .i64 (d2.1), Value.int .i64 (d2.2.1), Value.slice p2_A2 (d2.2.2.length) (p2_c2)].toArray 24 (0, 0))), (0, wm W)] ?_
                      refine VO.k17 0 1 2 3 4 5 8 12 13 14 15 16 18 26 56 99 115 ?_
                      refine VC.cond rfl (fun hc66 => ?_) (fun hc66 => ?_)
                      · -- FFFTFFFFFFT
                        exact absurd (((((tw_new.write (f := 3) (b := d0)).1.sync.1.fuse (n := d3)).1.orph (b := d1) (s := d2)).1.pull).1.start (k := d4) (t := d5)).2.symm hc66
                      · -- FFFTFFFFFFF
                        refine VC.skip ?_
                        refine outN ?_
                        refine VC.rs ?_
                        refine VO.mv ?_
                        refine VO.call 107 rfl fnOk30 rfl rfl (fun W hW => dDurable_ok W (hW.at (i := 107) rfl) w60_0 3 (by simp only [inK]; (exact fin0_orphanWrite_ok)) (by exact fin0_orphanWrite_ok)) (fun v67 m67 hv67 => ?_)
                        obtain ⟨s67_0, p67_0, p67_1, rfl, hS67, f67_0, w67_0⟩ := hv67
                        refine VO.inv _ (fun _ h => h.parts (i := 107) rfl hS67 [168, 169]) ?_
                        have hfa70 := (durable_size ((dStart ((dPull ((orphW ((dFuse ((dSync ((dWrite newD 3 d0).1)).1) d3).1) d1 d2).1)).1) d4 d5).1) 3)
                        obtain ⟨A67_0, c67_0, eq67_0, l67_0, k67_0⟩ := f67_0.slice
                        subst eq67_0
                        simp only [maxLen] at k67_0
                        refine VO.mv ?_
                        refine VO.call 110 rfl fnOk50 rfl rfl (fun W hW => rDurable_ok W (hW.at (i := 110) rfl) w63_0 3 (by simp only [inK]; (exact fin0_orphanWrite_ok)) (by exact fin0_orphanWrite_ok)) (fun v71 m71 hv71 => ?_)
                        obtain ⟨s71_0, p71_0, p71_1, rfl, hS71, f71_0, w71_0⟩ := hv71
                        refine VO.inv _ (fun _ h => h.parts (i := 110) rfl hS71 [172, 173]) ?_
                        have hfa74 := (durable_size (fromR (toR (dStart (fromR (toR (dPull (fromR (toR (orphW (fromR (toR (dFuse (fromR (toR (dSync (fromR (toR (dWrite (fromR newR) 3 d0).1 newR.2.2.2.2.2.1))).1 (toR (dWrite (fromR newR) 3 d0).1 newR.2.2.2.2.2.1).2.2.2.2.2.1)) d3).1 (toR (dSync (fromR (toR (dWrite (fromR newR) 3 d0).1 newR.2.2.2.2.2.1))).1 (toR (dWrite (fromR newR) 3 d0).1 newR.2.2.2.2.2.1).2.2.2.2.2.1).2.2.2.2.2.1)) d1 d2).1 (toR (dFuse (fromR (toR (dSync (fromR (toR (dWrite (fromR newR) 3 d0).1 newR.2.2.2.2.2.1))).1 (toR (dWrite (fromR newR) 3 d0).1 newR.2.2.2.2.2.1).2.2.2.2.2.1)) d3).1 (toR (dSync (fromR (toR (dWrite (fromR newR) 3 d0).1 newR.2.2.2.2.2.1))).1 (toR (dWrite (fromR newR) 3 d0).1 newR.2.2.2.2.2.1).2.2.2.2.2.1).2.2.2.2.2.1).2.2.2.2.2.1))).1 (toR (orphW (fromR (toR (dFuse (fromR (toR (dSync (fromR (toR (dWrite (fromR newR) 3 d0).1 newR.2.2.2.2.2.1))).1 (toR (dWrite (fromR newR) 3 d0).1 newR.2.2.2.2.2.1).2.2.2.2.2.1)) d3).1 (toR (dSync (fromR (toR (dWrite (fromR newR) 3 d0).1 newR.2.2.2.2.2.1))).1 (toR (dWrite (fromR newR) 3 d0).1 newR.2.2.2.2.2.1).2.2.2.2.2.1).2.2.2.2.2.1)) d1 d2).1 (toR (dFuse (fromR (toR (dSync (fromR (toR (dWrite (fromR newR) 3 d0).1 newR.2.2.2.2.2.1))).1 (toR (dWrite (fromR newR) 3 d0).1 newR.2.2.2.2.2.1).2.2.2.2.2.1)) d3).1 (toR (dSync (fromR (toR (dWrite (fromR newR) 3 d0).1 newR.2.2.2.2.2.1))).1 (toR (dWrite (fromR newR) 3 d0).1 newR.2.2.2.2.2.1).2.2.2.2.2.1).2.2.2.2.2.1).2.2.2.2.2.1).2.2.2.2.2.1)) d4 d5).1 (toR (dPull (fromR (toR (orphW (fromR (toR (dFuse (fromR (toR (dSync (fromR (toR (dWrite (fromR newR) 3 d0).1 newR.2.2.2.2.2.1))).1 (toR (dWrite (fromR newR) 3 d0).1 newR.2.2.2.2.2.1).2.2.2.2.2.1)) d3).1 (toR (dSync (fromR (toR (dWrite (fromR newR) 3 d0).1 newR.2.2.2.2.2.1))).1 (toR (dWrite (fromR newR) 3 d0).1 newR.2.2.2.2.2.1).2.2.2.2.2.1).2.2.2.2.2.1)) d1 d2).1 (toR (dFuse (fromR (toR (dSync (fromR (toR (dWrite (fromR newR) 3 d0).1 newR.2.2.2.2.2.1))).1 (toR (dWrite (fromR newR) 3 d0).1 newR.2.2.2.2.2.1).2.2.2.2.2.1)) d3).1 (toR (dSync (fromR (toR (dWrite (fromR newR) 3 d0).1 newR.2.2.2.2.2.1))).1 (toR (dWrite (fromR newR) 3 d0).1 newR.2.2.2.2.2.1).2.2.2.2.2.1).2.2.2.2.2.1).2.2.2.2.2.1))).1 (toR (orphW (fromR (toR (dFuse (fromR (toR (dSync (fromR (toR (dWrite (fromR newR) 3 d0).1 newR.2.2.2.2.2.1))).1 (toR (dWrite (fromR newR) 3 d0).1 newR.2.2.2.2.2.1).2.2.2.2.2.1)) d3).1 (toR (dSync (fromR (toR (dWrite (fromR newR) 3 d0).1 newR.2.2.2.2.2.1))).1 (toR (dWrite (fromR newR) 3 d0).1 newR.2.2.2.2.2.1).2.2.2.2.2.1).2.2.2.2.2.1)) d1 d2).1 (toR (dFuse (fromR (toR (dSync (fromR (toR (dWrite (fromR newR) 3 d0).1 newR.2.2.2.2.2.1))).1 (toR (dWrite (fromR newR) 3 d0).1 newR.2.2.2.2.2.1).2.2.2.2.2.1)) d3).1 (toR (dSync (fromR (toR (dWrite (fromR newR) 3 d0).1 newR.2.2.2.2.2.1))).1 (toR (dWrite (fromR newR) 3 d0).1 newR.2.2.2.2.2.1).2.2.2.2.2.1).2.2.2.2.2.1).2.2.2.2.2.1).2.2.2.2.2.1).2.2.2.2.2.1)) 3)
                        obtain ⟨A71_0, c71_0, eq71_0, l71_0, k71_0⟩ := f71_0.slice
                        subst eq71_0
                        simp only [maxLen] at k71_0
                        refine VO.callN 175 rfl fnOk21 rfl (fun W hW => SameBytes_ok W (OwnL.rd (Ow.ownl f67_0 rfl mnil) (hW.at (i := 168) rfl) (mle_nil _)) (OwnL.rd (Ow.ownl f71_0 rfl mnil) (hW.at (i := 172) rfl) (mle_nil _))) (fun v75 m75 hv75 => ?_)
                        subst hv75
                        refine VO.mv ?_
                        refine VO.dec (t := 121) rfl (fun hc76 => ?_) (fun hc76 => ?_)
                        · -- FFFTFFFFFFFT
                          refine VO.gy rfl ⟨_, rfl, rfl⟩ (.mv rfl) ?_
                          refine VO.gy rfl ⟨_, rfl, rfl⟩ (.ldA 102 rfl tk24 rfl (cellsAt_one rfl rfl)) ?_
                          refine VO.gcallN 177 rfl ⟨_, rfl, rfl⟩ fnOk29 rfl (fun W hW => oWriteN_ok W d1 (by simp only [inK]; (exact fin0_orphanWrite_ok)) (Rd.mono h2 (hW.at (i := 0) rfl))) (fun v77 m77 hv77 => ?_)
                          subst hv77
                          refine VO.gy rfl ⟨_, rfl, rfl⟩ (.eql rfl rfl) ?_
                          refine VO.y rfl (.pT rfl rfl) ?_
                          refine VO.mv ?_
                          refine VO.dec (t := 127) rfl (fun hc78 => ?_) (fun hc78 => ?_)
                          · -- FFFTFFFFFFFTT
                            refine VO.gy rfl ⟨_, rfl, rfl⟩ (.bst (cs := [Value.bool false, Value.bool false, Value.bool false, Value.int .i64 (0), Value.int .i64 (0), Value.slice none (0) (0), Value.slice none (0) (0), Value.slice none (0) (0), Value.slice none (0) (0), Value.slice none (0) (0)]) rfl tst72 tz72 rfl) ?_
                            refine VO.gbox (cs := [Value.bool false, Value.bool false, Value.bool false, Value.int .i64 (0), Value.int .i64 (0), Value.slice none (0) (0), Value.slice none (0) (0), Value.slice none (0) (0), Value.slice none (0) (0), Value.slice none (0) (0)]) 180 rfl ⟨_, rfl, rfl⟩ rfl rfl (fun g79 => ?_)
                            refine VO.gy rfl ⟨_, rfl, rfl⟩ (.mv rfl) ?_
                            refine VO.gy rfl ⟨_, rfl, rfl⟩ (.ldA 102 rfl tk24 rfl (cellsAt_one rfl rfl)) ?_
                            refine VO.clsP 182 [180] rfl (fun hg82 => (mkP_diskDisk false false false 0 0 [] [] [] [] [] (Seps.nilAt 5 (Seps.nilAt 4 (Seps.nilAt 3 (Seps.nilAt 2 (Seps.nilAt 1 hg82))))) (by simp only [inK]; (exact fin0_orphanWrite_ok)) (by simp only [inK]; (exact fin0_orphanWrite_ok)) (Ow.nil _ _) (Ow.nil _ _) (Ow.nil _ _) (Ow.nil _ _) (Ow.nil _ _))) (fun mc82 ho82 => ?_)
                            refine VO.gcall 182 rfl ⟨_, rfl, rfl⟩ fnOk29 rfl rfl (fun W hW => oWrite_ok W (hW.at (i := 182) rfl) ho82 d1 (by simp only [inK]; (exact fin0_orphanWrite_ok)) (Rd.mono h2 (hW.out (i := 182) (j := 0) rfl rfl)) (by first | assumption | exact okD_zero) (by exact fin0_orphanWrite_ok)) (fun v81 m81 hv81 => ?_)
                            try dsimp only at hv81
                            obtain ⟨rfl, w81_0⟩ := hv81
                            have hfa83 := (orphW_ok (base := d1) (s := d2) (show okD (false, false, false, 0, 0, ([], [], [], []), []) by assumption))
                            have hfa84 := (orphW_w (base := d1) (s := d2) (show okD (false, false, false, 0, 0, ([], [], [], []), []) by assumption))
                            refine VO.gy rfl ⟨_, rfl, rfl⟩ (.eql rfl rfl) ?_
                            refine VO.y rfl (.pT rfl rfl) ?_
                            refine VO.as ?_
                            refine VO.k17 0 1 2 3 4 5 8 12 13 14 15 16 18 26 56 99 115 ?_
                            refine VC.ret ?_
                            refine ⟨_, _, res_run (rs := [.tmp 12]) rfl (.tmp rfl .nil), fun W_ hI => out_of (l := []) hI [] rfl rfl (mle_refl _) (fun hS_ => ?_)⟩
                            dsimp only [packV]
                            all_goals (first | rfl | (exact congrArg Value.bool (decide_eq_true (orph_zero _ _))))
                          · -- FFFTFFFFFFFTF
                            exact absurd rfl hc78
                        · -- FFFTFFFFFFFF
                          exact absurd (((((tw_new.write (f := 3) (b := d0)).1.sync.1.fuse (n := d3)).1.orph (b := d1) (s := d2)).1.pull).1.start (k := d4) (t := d5)).1.durable.symm hc76
        · -- FFFF
          refine VO.gN ?_
          refine VO.gN ?_
          refine VO.gN ?_
          refine VO.gN ?_
          refine VO.gN ?_
          refine VO.gy rfl ⟨_, rfl, rfl⟩ (.pF rfl rfl) ?_
          refine VO.y rfl (.pF rfl rfl) ?_
          refine VO.mv ?_
          refine VO.gy rfl ⟨_, rfl, rfl⟩ (.mv rfl) ?_
          refine VO.gy rfl ⟨_, rfl, rfl⟩ (.mv rfl) ?_
          refine VO.gcall 107 rfl ⟨_, rfl, rfl⟩ fnOk39 rfl rfl (fun W hW => dFuse_ok W (hW.at (i := 107) rfl) w13_0 d3 (by simp only [inK]; (exact fin0_orphanWrite_ok)) (by assumption)) (fun v85 m85 hv85 => ?_)
          obtain ⟨rfl, w85_0⟩ := hv85
          have hfa86 := (fuse_ok (n := d3) (show okD ((dWrite newD 3 d0).1) by assumption))
          have hfa87 := (fuse_w ((dWrite newD 3 d0).1) d3)
          refine VO.gy rfl ⟨_, rfl, rfl⟩ (.mv rfl) ?_
          refine VO.gy rfl ⟨_, rfl, rfl⟩ (.mv rfl) ?_
          refine VO.gcall 110 rfl ⟨_, rfl, rfl⟩ fnOk40 rfl rfl (fun W hW => rFuse_ok W (hW.at (i := 110) rfl) w16_0 d3 (by simp only [inK]; (exact fin0_orphanWrite_ok)) (by assumption)) (fun v88 m88 hv88 => ?_)
          obtain ⟨rfl, w88_0⟩ := hv88
          have hfa89 := (ro_fuse (n := d3) (show okR (toR (dWrite (fromR newR) 3 d0).1 newR.2.2.2.2.2.1) by assumption))
          have hfa90 := (rw_fuse (n := d3) (show okR (toR (dWrite (fromR newR) 3 d0).1 newR.2.2.2.2.2.1) by assumption))
          refine VO.gy rfl ⟨_, rfl, rfl⟩ (.neq rfl rfl) ?_
          refine VO.y rfl (.pF rfl rfl) ?_
          refine VO.k13 0 1 2 3 4 5 8 12 13 14 18 26 56 ?_
          refine VC.cond rfl (fun hc91 => ?_) (fun hc91 => ?_)
          · -- FFFFT
            exact absurd ((tw_new.write (f := 3) (b := d0)).1.fuse (n := d3)).2.symm hc91
          · -- FFFFF
            refine VC.skip ?_
            refine outN ?_
            refine VC.rs ?_
            refine VO.y rfl (.fa rfl tst24 rfl) ?_
            refine VO.y rfl (.ld1 102 rfl tk22 rfl (cellsAt_one rfl rfl)) ?_
            refine VO.callN 192 rfl fnOk14 rfl (fun W hW => LentCommits_ok W (Rd.mono p2_2 (hW.at (i := 0) rfl)) (by exact fin0_orphanWrite_ok) (by exact (small_room ‹¬ ¬ smallS d2›).2.1)) (fun v92 m92 hv92 => ?_)
            obtain ⟨s92_0, rfl, f92_0⟩ := hv92
            have hfa93 := lent_len d2.2.2
            obtain ⟨A92_0, c92_0, eq92_0, l92_0, k92_0⟩ := f92_0.slice
            subst eq92_0
            simp only [maxLen] at k92_0
            refine VO.as ?_
            refine VO.kp [192, 110, 107, 102, 0] [(192, m92), (110, m88), (107, m85), (102, mone g1 (.cells [Value.int .i64 (d2.1), Value.int .i64 (d2.2.1), Value.slice p2_A2 (d2.2.2.length) (p2_c2)].toArray 24 (0, 0))), (0, wm W)] ?_
            refine VO.k14 0 1 2 3 4 5 8 12 13 14 15 18 26 56 ?_
            refine VC.seq ?_
            refine VC.regD _ 12 [(0, true), (1, true), (2, true), (3, true), (4, true), (5, true), (6, true), (7, true), (8, true), (9, true), (10, true), (11, true)] follows (by kernel_rfl) (fun _ h => h.sub [192, 110, 107, 102, 0]) ?_
            refine VD.y rfl rfl (.inl rfl) (.mv rfl) ?_
            refine VD.y rfl rfl (.inl rfl) (.mv rfl) ?_
            refine VD.y rfl rfl (.inl rfl) (.fa rfl tst24 rfl) ?_
            refine VD.y rfl rfl (.inl rfl) (.ld1 102 rfl tk3 rfl (cellsAt_one rfl rfl)) ?_
            refine VD.y rfl rfl (.inl rfl) (.fa rfl tst24 rfl) ?_
            refine VD.y rfl rfl (.inl rfl) (.ld1 102 rfl tk3 rfl (cellsAt_one rfl rfl)) ?_
            refine VD.y rfl rfl (.inl rfl) (.mv rfl) ?_
            refine VD.y rfl rfl (.inl rfl) (.fa rfl tst24 rfl) ?_
            refine VD.y rfl rfl (.inl rfl) (.ld1 102 rfl tk22 rfl (cellsAt_one rfl rfl)) ?_
            refine VD.y rfl rfl (.inl rfl) (.lenS rfl tsl22) ?_
            have hs94 := (Ow.rd f92_0 (mle_refl _)).pre (j := d2.2.2.length) (by exact fin0_orphanWrite_ok)
            refine VD.y rfl rfl (.inl rfl) (.slHI d2.2.2.length rfl rfl tsl22 rfl (by exact fin0_orphanWrite_ok)) ?_
            refine VD.y rfl rfl (.inl rfl) (.bst (cs := [Value.int .i64 (d2.1), Value.int .i64 (d2.2.1), Value.slice A92_0 (d2.2.2.length) (c92_0)]) rfl tst24 tz24 rfl) ?_
            refine VD.nil rfl ?_ rfl
            refine VO.call 107 rfl fnOk29 rfl rfl (fun W hW => oWrite_ok W (hW.at (i := 107) rfl) w85_0 d1 (by simp only [inK]; (exact fin0_orphanWrite_ok)) (show Rd TSection _ _ d2 from (mk_Section (m := mout (wm W) (m85)) d2.1 d2.2.1 d2.2.2 (by simp only [inK]; (exact fin0_orphanWrite_ok)) (by simp only [inK]; (exact fin0_orphanWrite_ok)) (lent_rd (Ow.rd (f92_0.pre (j := d2.2.2.length) (by exact fin0_orphanWrite_ok)) (hW.out (i := 107) (j := 192) rfl rfl))))) (by first | assumption | exact okD_zero) (by exact fin0_orphanWrite_ok)) (fun v95 m95 hv95 => ?_)
            obtain ⟨rfl, w95_0⟩ := hv95
            have hfa96 := (orphW_ok (base := d1) (s := d2) (show okD ((dFuse ((dWrite newD 3 d0).1) d3).1) by assumption))
            have hfa97 := (orphW_w (base := d1) (s := d2) (show okD ((dFuse ((dWrite newD 3 d0).1) d3).1) by assumption))
            refine VO.as ?_
            refine VO.k15 0 1 2 3 4 5 8 12 13 14 15 16 18 26 56 ?_
            refine outN ?_
            refine VC.seq ?_
            refine VC.rs ?_
            refine VO.mv ?_
            refine VO.mv ?_
            refine VO.mv ?_
            refine VO.y rfl (.ldA 102 rfl tk24 rfl (cellsAt_one rfl rfl)) ?_
            refine VO.call 110 rfl fnOk41 rfl rfl (fun W hW => s19Write_ok W (hW.at (i := 110) rfl) w88_0 d1 (by simp only [inK]; (exact fin0_orphanWrite_ok)) (Rd.mono h2 (hW.out (i := 110) (j := 0) rfl rfl)) (by assumption) (by exact fin0_orphanWrite_ok)) (fun v98 m98 hv98 => ?_)
            obtain ⟨rfl, w98_0⟩ := hv98
            have hfa99 := (ro_orphW (b := d1) (s := d2) (show okR (toR (dFuse (fromR (toR (dWrite (fromR newR) 3 d0).1 newR.2.2.2.2.2.1)) d3).1 (toR (dWrite (fromR newR) 3 d0).1 newR.2.2.2.2.2.1).2.2.2.2.2.1) by assumption))
            have hfa100 := (rw_orphW (b := d1) (s := d2) (show okR (toR (dFuse (fromR (toR (dWrite (fromR newR) 3 d0).1 newR.2.2.2.2.2.1)) d3).1 (toR (dWrite (fromR newR) 3 d0).1 newR.2.2.2.2.2.1).2.2.2.2.2.1) by assumption))
            refine VO.y rfl (.neq rfl rfl) ?_
            refine VO.mv ?_
            refine VO.dec (t := 79) rfl (fun hc101 => ?_) (fun hc101 => ?_)
            · -- FFFFFT
              exact absurd (((tw_new.write (f := 3) (b := d0)).1.fuse (n := d3)).1.orph (b := d1) (s := d2)).2.symm hc101
            · -- FFFFFF
              refine VO.gy rfl ⟨_, rfl, rfl⟩ (.mv rfl) ?_
              refine VO.gy rfl ⟨_, rfl, rfl⟩ (.fa rfl tst24 rfl) ?_
              refine VO.gy rfl ⟨_, rfl, rfl⟩ (.ld1 102 rfl tk22 rfl (cellsAt_one rfl rfl)) ?_
              refine VO.gcallN 202 rfl ⟨_, rfl, rfl⟩ fnOk24 rfl (fun W hW => KeptCommits_ok W (Ow.rd f92_0 (hW.at (i := 192) rfl)) (Rd.mono p2_2 (hW.at (i := 0) rfl)) (by rfl) (by exact fin0_orphanWrite_ok) (by exact (small_room ‹¬ ¬ smallS d2›).2.1)) (fun v102 m102 hv102 => ?_)
              subst hv102
              refine VO.gy rfl ⟨_, rfl, rfl⟩ (.not rfl) ?_
              refine VO.y rfl (.pF rfl rfl) ?_
              refine VO.mv ?_
              refine VO.gy rfl ⟨_, rfl, rfl⟩ (.mv rfl) ?_
              refine VO.gcall 107 rfl ⟨_, rfl, rfl⟩ fnOk42 rfl rfl (fun W hW => dSteps_ok W (hW.at (i := 107) rfl) w95_0) (fun v103 m103 hv103 => ?_)
              obtain ⟨rfl, w103_0⟩ := hv103
              refine VO.gy rfl ⟨_, rfl, rfl⟩ (.mv rfl) ?_
              refine VO.gcall 110 rfl ⟨_, rfl, rfl⟩ fnOk43 rfl rfl (fun W hW => rSteps_ok W (hW.at (i := 110) rfl) w98_0) (fun v104 m104 hv104 => ?_)
              obtain ⟨rfl, w104_0⟩ := hv104
              refine VO.gy rfl ⟨_, rfl, rfl⟩ (.neq rfl rfl) ?_
              refine VO.y rfl (.pF rfl rfl) ?_
              refine VO.mv ?_
              refine VO.dec (t := 93) rfl (fun hc105 => ?_) (fun hc105 => ?_)
              · -- FFFFFFT
                exact absurd (((tw_new.write (f := 3) (b := d0)).1.fuse (n := d3)).1.orph (b := d1) (s := d2)).1.steps.symm hc105
              · -- FFFFFFF
                refine VO.gy rfl ⟨_, rfl, rfl⟩ (.mv rfl) ?_
                refine VO.gcall 107 rfl ⟨_, rfl, rfl⟩ fnOk44 rfl rfl (fun W hW => dOn_ok W (hW.at (i := 107) rfl) w103_0) (fun v106 m106 hv106 => ?_)
                obtain ⟨rfl, w106_0⟩ := hv106
                refine VO.gy rfl ⟨_, rfl, rfl⟩ (.mv rfl) ?_
                refine VO.gcall 110 rfl ⟨_, rfl, rfl⟩ fnOk45 rfl rfl (fun W hW => rOn_ok W (hW.at (i := 110) rfl) w104_0) (fun v107 m107 hv107 => ?_)
                obtain ⟨rfl, w107_0⟩ := hv107
                refine VO.gy rfl ⟨_, rfl, rfl⟩ (.bneq rfl rfl Try.underlying4) ?_
                refine VO.y rfl (.pF rfl rfl) ?_
                refine VO.k16 0 1 2 3 4 5 8 12 13 14 15 16 18 26 56 99 ?_
                refine VC.cond rfl (fun hc108 => ?_) (fun hc108 => ?_)
                · -- FFFFFFFT
                  exact absurd (((tw_new.write (f := 3) (b := d0)).1.fuse (n := d3)).1.orph (b := d1) (s := d2)).1.onn hc108
                · -- FFFFFFFF
                  refine VC.skip ?_
                  refine outN ?_
                  refine VC.seq ?_
                  refine VC.rs ?_
                  refine VO.mv ?_
                  refine VO.call 107 rfl fnOk46 rfl rfl (fun W hW => dPull_ok W (hW.at (i := 107) rfl) w106_0 (by assumption)) (fun v109 m109 hv109 => ?_)
                  obtain ⟨rfl, w109_0⟩ := hv109
                  have hfa110 := (pull_ok (show okD ((orphW ((dFuse ((dWrite newD 3 d0).1) d3).1) d1 d2).1) by assumption))
                  have hfa111 := (pull_w ((orphW ((dFuse ((dWrite newD 3 d0).1) d3).1) d1 d2).1))
                  refine VO.mv ?_
                  refine VO.call 110 rfl fnOk47 rfl rfl (fun W hW => rPull_ok W (hW.at (i := 110) rfl) w107_0 (by assumption)) (fun v112 m112 hv112 => ?_)
                  obtain ⟨rfl, w112_0⟩ := hv112
                  have hfa113 := (ro_pull (show okR (toR (orphW (fromR (toR (dFuse (fromR (toR (dWrite (fromR newR) 3 d0).1 newR.2.2.2.2.2.1)) d3).1 (toR (dWrite (fromR newR) 3 d0).1 newR.2.2.2.2.2.1).2.2.2.2.2.1)) d1 d2).1 (toR (dFuse (fromR (toR (dWrite (fromR newR) 3 d0).1 newR.2.2.2.2.2.1)) d3).1 (toR (dWrite (fromR newR) 3 d0).1 newR.2.2.2.2.2.1).2.2.2.2.2.1).2.2.2.2.2.1) by assumption))
                  have hfa114 := (rw_pull (show okR (toR (orphW (fromR (toR (dFuse (fromR (toR (dWrite (fromR newR) 3 d0).1 newR.2.2.2.2.2.1)) d3).1 (toR (dWrite (fromR newR) 3 d0).1 newR.2.2.2.2.2.1).2.2.2.2.2.1)) d1 d2).1 (toR (dFuse (fromR (toR (dWrite (fromR newR) 3 d0).1 newR.2.2.2.2.2.1)) d3).1 (toR (dWrite (fromR newR) 3 d0).1 newR.2.2.2.2.2.1).2.2.2.2.2.1).2.2.2.2.2.1) by assumption))
                  refine VO.y rfl (.neq rfl rfl) ?_
                  refine VO.mv ?_
                  refine VO.dec (t := 105) rfl (fun hc115 => ?_) (fun hc115 => ?_)
                  · -- FFFFFFFFT
                    exact absurd ((((tw_new.write (f := 3) (b := d0)).1.fuse (n := d3)).1.orph (b := d1) (s := d2)).1.pull).2.symm hc115
                  · -- FFFFFFFFF
                    refine VO.gy rfl ⟨_, rfl, rfl⟩ (.mv rfl) ?_
                    refine VO.gy rfl ⟨_, rfl, rfl⟩ (.mv rfl) ?_
                    refine VO.gy rfl ⟨_, rfl, rfl⟩ (.mv rfl) ?_
                    refine VO.gcall 107 rfl ⟨_, rfl, rfl⟩ fnOk48 rfl rfl (fun W hW => dStart_ok W (hW.at (i := 107) rfl) w109_0 d4 (by simp only [inK]; (exact fin0_orphanWrite_ok)) d5 (by simp only [inK]; (exact fin0_orphanWrite_ok)) (by assumption) (by exact fin0_orphanWrite_ok)) (fun v116 m116 hv116 => ?_)
                    obtain ⟨rfl, w116_0⟩ := hv116
                    have hfa117 := (start_ok (k := d4) (t := d5) (show okD ((dPull ((orphW ((dFuse ((dWrite newD 3 d0).1) d3).1) d1 d2).1)).1) by assumption))
                    have hfa118 := (start_w ((dPull ((orphW ((dFuse ((dWrite newD 3 d0).1) d3).1) d1 d2).1)).1) d4 d5)
                    refine VO.gy rfl ⟨_, rfl, rfl⟩ (.mv rfl) ?_
                    refine VO.gy rfl ⟨_, rfl, rfl⟩ (.mv rfl) ?_
                    refine VO.gy rfl ⟨_, rfl, rfl⟩ (.mv rfl) ?_
                    refine VO.gcall 110 rfl ⟨_, rfl, rfl⟩ fnOk49 rfl rfl (fun W hW => rStart_ok W (hW.at (i := 110) rfl) w112_0 d4 (by simp only [inK]; (exact fin0_orphanWrite_ok)) d5 (by simp only [inK]; (exact fin0_orphanWrite_ok)) (by assumption) (by exact fin0_orphanWrite_ok)) (fun v119 m119 hv119 => ?_)
                    obtain ⟨rfl, w119_0⟩ := hv119
                    have hfa120 := (ro_start (k := d4) (t := d5) (show okR (toR (dPull (fromR (toR (orphW (fromR (toR (dFuse (fromR (toR (dWrite (fromR newR) 3 d0).1 newR.2.2.2.2.2.1)) d3).1 (toR (dWrite (fromR newR) 3 d0).1 newR.2.2.2.2.2.1).2.2.2.2.2.1)) d1 d2).1 (toR (dFuse (fromR (toR (dWrite (fromR newR) 3 d0).1 newR.2.2.2.2.2.1)) d3).1 (toR (dWrite (fromR newR) 3 d0).1 newR.2.2.2.2.2.1).2.2.2.2.2.1).2.2.2.2.2.1))).1 (toR (orphW (fromR (toR (dFuse (fromR (toR (dWrite (fromR newR) 3 d0).1 newR.2.2.2.2.2.1)) d3).1 (toR (dWrite (fromR newR) 3 d0).1 newR.2.2.2.2.2.1).2.2.2.2.2.1)) d1 d2).1 (toR (dFuse (fromR (toR (dWrite (fromR newR) 3 d0).1 newR.2.2.2.2.2.1)) d3).1 (toR (dWrite (fromR newR) 3 d0).1 newR.2.2.2.2.2.1).2.2.2.2.2.1).2.2.2.2.2.1).2.2.2.2.2.1) by assumption))
                    have hfa121 := (rw_start (k := d4) (t := d5) (show okR (toR (dPull (fromR (toR (orphW (fromR (toR (dFuse (fromR (toR (dWrite (fromR newR) 3 d0).1 newR.2.2.2.2.2.1)) d3).1 (toR (dWrite (fromR newR) 3 d0).1 newR.2.2.2.2.2.1).2.2.2.2.2.1)) d1 d2).1 (toR (dFuse (fromR (toR (dWrite (fromR newR) 3 d0).1 newR.2.2.2.2.2.1)) d3).1 (toR (dWrite (fromR newR) 3 d0).1 newR.2.2.2.2.2.1).2.2.2.2.2.1).2.2.2.2.2.1))).1 (toR (orphW (fromR (toR (dFuse (fromR (toR (dWrite (fromR newR) 3 d0).1 newR.2.2.2.2.2.1)) d3).1 (toR (dWrite (fromR newR) 3 d0).1 newR.2.2.2.2.2.1).2.2.2.2.2.1)) d1 d2).1 (toR (dFuse (fromR (toR (dWrite (fromR newR) 3 d0).1 newR.2.2.2.2.2.1)) d3).1 (toR (dWrite (fromR newR) 3 d0).1 newR.2.2.2.2.2.1).2.2.2.2.2.1).2.2.2.2.2.1).2.2.2.2.2.1) by assumption))
                    refine VO.gy rfl ⟨_, rfl, rfl⟩ (.neq rfl rfl) ?_
                    refine VO.y rfl (.pF rfl rfl) ?_
                    refine VO.kp [110, 107, 192, 102, 0] [(110, m119), (107, m116), (192, m92), (102, mone g1 (.cells [Value.int .i64 (d2.1), Value.int .i64 (d2.2.1), Value.slice p2_A2 (d2.2.2.length) (p2_c2)].toArray 24 (0, 0))), (0, wm W)] ?_
                    refine VO.k17 0 1 2 3 4 5 8 12 13 14 15 16 18 26 56 99 115 ?_
                    refine VC.cond rfl (fun hc122 => ?_) (fun hc122 => ?_)
                    · -- FFFFFFFFFT
                      exact absurd (((((tw_new.write (f := 3) (b := d0)).1.fuse (n := d3)).1.orph (b := d1) (s := d2)).1.pull).1.start (k := d4) (t := d5)).2.symm hc122
                    · -- FFFFFFFFFF
                      refine VC.skip ?_
                      refine outN ?_
                      refine VC.rs ?_
                      refine VO.mv ?_
                      refine VO.call 107 rfl fnOk30 rfl rfl (fun W hW => dDurable_ok W (hW.at (i := 107) rfl) w116_0 3 (by simp only [inK]; (exact fin0_orphanWrite_ok)) (by exact fin0_orphanWrite_ok)) (fun v123 m123 hv123 => ?_)
                      obtain ⟨s123_0, p123_0, p123_1, rfl, hS123, f123_0, w123_0⟩ := hv123
                      refine VO.inv _ (fun _ h => h.parts (i := 107) rfl hS123 [224, 225]) ?_
                      have hfa126 := (durable_size ((dStart ((dPull ((orphW ((dFuse ((dWrite newD 3 d0).1) d3).1) d1 d2).1)).1) d4 d5).1) 3)
                      obtain ⟨A123_0, c123_0, eq123_0, l123_0, k123_0⟩ := f123_0.slice
                      subst eq123_0
                      simp only [maxLen] at k123_0
                      refine VO.mv ?_
                      refine VO.call 110 rfl fnOk50 rfl rfl (fun W hW => rDurable_ok W (hW.at (i := 110) rfl) w119_0 3 (by simp only [inK]; (exact fin0_orphanWrite_ok)) (by exact fin0_orphanWrite_ok)) (fun v127 m127 hv127 => ?_)
                      obtain ⟨s127_0, p127_0, p127_1, rfl, hS127, f127_0, w127_0⟩ := hv127
                      refine VO.inv _ (fun _ h => h.parts (i := 110) rfl hS127 [228, 229]) ?_
                      have hfa130 := (durable_size (fromR (toR (dStart (fromR (toR (dPull (fromR (toR (orphW (fromR (toR (dFuse (fromR (toR (dWrite (fromR newR) 3 d0).1 newR.2.2.2.2.2.1)) d3).1 (toR (dWrite (fromR newR) 3 d0).1 newR.2.2.2.2.2.1).2.2.2.2.2.1)) d1 d2).1 (toR (dFuse (fromR (toR (dWrite (fromR newR) 3 d0).1 newR.2.2.2.2.2.1)) d3).1 (toR (dWrite (fromR newR) 3 d0).1 newR.2.2.2.2.2.1).2.2.2.2.2.1).2.2.2.2.2.1))).1 (toR (orphW (fromR (toR (dFuse (fromR (toR (dWrite (fromR newR) 3 d0).1 newR.2.2.2.2.2.1)) d3).1 (toR (dWrite (fromR newR) 3 d0).1 newR.2.2.2.2.2.1).2.2.2.2.2.1)) d1 d2).1 (toR (dFuse (fromR (toR (dWrite (fromR newR) 3 d0).1 newR.2.2.2.2.2.1)) d3).1 (toR (dWrite (fromR newR) 3 d0).1 newR.2.2.2.2.2.1).2.2.2.2.2.1).2.2.2.2.2.1).2.2.2.2.2.1)) d4 d5).1 (toR (dPull (fromR (toR (orphW (fromR (toR (dFuse (fromR (toR (dWrite (fromR newR) 3 d0).1 newR.2.2.2.2.2.1)) d3).1 (toR (dWrite (fromR newR) 3 d0).1 newR.2.2.2.2.2.1).2.2.2.2.2.1)) d1 d2).1 (toR (dFuse (fromR (toR (dWrite (fromR newR) 3 d0).1 newR.2.2.2.2.2.1)) d3).1 (toR (dWrite (fromR newR) 3 d0).1 newR.2.2.2.2.2.1).2.2.2.2.2.1).2.2.2.2.2.1))).1 (toR (orphW (fromR (toR (dFuse (fromR (toR (dWrite (fromR newR) 3 d0).1 newR.2.2.2.2.2.1)) d3).1 (toR (dWrite (fromR newR) 3 d0).1 newR.2.2.2.2.2.1).2.2.2.2.2.1)) d1 d2).1 (toR (dFuse (fromR (toR (dWrite (fromR newR) 3 d0).1 newR.2.2.2.2.2.1)) d3).1 (toR (dWrite (fromR newR) 3 d0).1 newR.2.2.2.2.2.1).2.2.2.2.2.1).2.2.2.2.2.1).2.2.2.2.2.1).2.2.2.2.2.1)) 3)
                      obtain ⟨A127_0, c127_0, eq127_0, l127_0, k127_0⟩ := f127_0.slice
                      subst eq127_0
                      simp only [maxLen] at k127_0
                      refine VO.callN 231 rfl fnOk21 rfl (fun W hW => SameBytes_ok W (OwnL.rd (Ow.ownl f123_0 rfl mnil) (hW.at (i := 224) rfl) (mle_nil _)) (OwnL.rd (Ow.ownl f127_0 rfl mnil) (hW.at (i := 228) rfl) (mle_nil _))) (fun v131 m131 hv131 => ?_)
                      subst hv131
                      refine VO.mv ?_
                      refine VO.dec (t := 121) rfl (fun hc132 => ?_) (fun hc132 => ?_)
                      · -- FFFFFFFFFFT
                        refine VO.gy rfl ⟨_, rfl, rfl⟩ (.mv rfl) ?_
                        refine VO.gy rfl ⟨_, rfl, rfl⟩ (.ldA 102 rfl tk24 rfl (cellsAt_one rfl rfl)) ?_
                        refine VO.gcallN 233 rfl ⟨_, rfl, rfl⟩ fnOk29 rfl (fun W hW => oWriteN_ok W d1 (by simp only [inK]; (exact fin0_orphanWrite_ok)) (Rd.mono h2 (hW.at (i := 0) rfl))) (fun v133 m133 hv133 => ?_)
                        subst hv133
                        refine VO.gy rfl ⟨_, rfl, rfl⟩ (.eql rfl rfl) ?_
                        refine VO.y rfl (.pT rfl rfl) ?_
                        refine VO.mv ?_
                        refine VO.dec (t := 127) rfl (fun hc134 => ?_) (fun hc134 => ?_)
                        · -- FFFFFFFFFFTT
                          refine VO.gy rfl ⟨_, rfl, rfl⟩ (.bst (cs := [Value.bool false, Value.bool false, Value.bool false, Value.int .i64 (0), Value.int .i64 (0), Value.slice none (0) (0), Value.slice none (0) (0), Value.slice none (0) (0), Value.slice none (0) (0), Value.slice none (0) (0)]) rfl tst72 tz72 rfl) ?_
                          refine VO.gbox (cs := [Value.bool false, Value.bool false, Value.bool false, Value.int .i64 (0), Value.int .i64 (0), Value.slice none (0) (0), Value.slice none (0) (0), Value.slice none (0) (0), Value.slice none (0) (0), Value.slice none (0) (0)]) 236 rfl ⟨_, rfl, rfl⟩ rfl rfl (fun g135 => ?_)
                          refine VO.gy rfl ⟨_, rfl, rfl⟩ (.mv rfl) ?_
                          refine VO.gy rfl ⟨_, rfl, rfl⟩ (.ldA 102 rfl tk24 rfl (cellsAt_one rfl rfl)) ?_
                          refine VO.clsP 238 [236] rfl (fun hg138 => (mkP_diskDisk false false false 0 0 [] [] [] [] [] (Seps.nilAt 5 (Seps.nilAt 4 (Seps.nilAt 3 (Seps.nilAt 2 (Seps.nilAt 1 hg138))))) (by simp only [inK]; (exact fin0_orphanWrite_ok)) (by simp only [inK]; (exact fin0_orphanWrite_ok)) (Ow.nil _ _) (Ow.nil _ _) (Ow.nil _ _) (Ow.nil _ _) (Ow.nil _ _))) (fun mc138 ho138 => ?_)
                          refine VO.gcall 238 rfl ⟨_, rfl, rfl⟩ fnOk29 rfl rfl (fun W hW => oWrite_ok W (hW.at (i := 238) rfl) ho138 d1 (by simp only [inK]; (exact fin0_orphanWrite_ok)) (Rd.mono h2 (hW.out (i := 238) (j := 0) rfl rfl)) (by first | assumption | exact okD_zero) (by exact fin0_orphanWrite_ok)) (fun v137 m137 hv137 => ?_)
                          try dsimp only at hv137
                          obtain ⟨rfl, w137_0⟩ := hv137
                          have hfa139 := (orphW_ok (base := d1) (s := d2) (show okD (false, false, false, 0, 0, ([], [], [], []), []) by assumption))
                          have hfa140 := (orphW_w (base := d1) (s := d2) (show okD (false, false, false, 0, 0, ([], [], [], []), []) by assumption))
                          refine VO.gy rfl ⟨_, rfl, rfl⟩ (.eql rfl rfl) ?_
                          refine VO.y rfl (.pT rfl rfl) ?_
                          refine VO.as ?_
                          refine VO.k17 0 1 2 3 4 5 8 12 13 14 15 16 18 26 56 99 115 ?_
                          refine VC.ret ?_
                          refine ⟨_, _, res_run (rs := [.tmp 12]) rfl (.tmp rfl .nil), fun W_ hI => out_of (l := []) hI [] rfl rfl (mle_refl _) (fun hS_ => ?_)⟩
                          dsimp only [packV]
                          all_goals (first | rfl | (exact congrArg Value.bool (decide_eq_true (orph_zero _ _))))
                        · -- FFFFFFFFFFTF
                          exact absurd rfl hc134
                      · -- FFFFFFFFFFF
                        exact absurd (((((tw_new.write (f := 3) (b := d0)).1.fuse (n := d3)).1.orph (b := d1) (s := d2)).1.pull).1.start (k := d4) (t := d5)).1.durable.symm hc132
end
section
set_option linter.unusedVariables false
set_option maxRecDepth 4000
open Go.ChangeShapes Go.WideShapes Go.ChangeAt Go.RowKit
theorem orphanWrite_ok0 : tyOk Try.prog 60 (.sl .byte) (.inl 25) = true := by kernel_rfl
theorem orphanWrite_ok2 : tyOk Try.prog 60 TSection (.inl 24) = true := by kernel_rfl
set_option maxRecDepth 100000 in
theorem orphanWrite_lifted (os : Os) (started : os.Started) (H : Type) (enc : TypeId × Value → H) :
    ReturnsInHanded {} Try.checked os 7 .any (Rows.orphanWriteSpec.pre6 enc Try.prog Try.f7 Rows.orphanWriteRow.domain false) (Rows.orphanWriteSpec.post enc Try.prog Try.f7 false true false false) := by
  refine returnsInHanded_of_change (C := Try.checked) (by kernel_rfl) started (by kernel_rfl) Try.func7
    (ChangeSpec.witness6 (enc := enc) (C := Try.checked) false ⟨#[], #[.slice none 0 0, .int .i64 0, .agg #[.int .i64 0, .int .i64 0, .slice none 0 0], .int .i64 0, .int .i64 0, .int .i64 0], []⟩ 8 (by kernel_rfl) (by kernel_rfl) (by kernel_rfl) (by kernel_rfl)) ?_
  intro W base args ds gs before hval0 hW hcnd _
  have hval : ∀ (j : Nat) t v, Try.f7.params[j]? = some t → args[j]? = some v → Value.okWide Try.prog W .any base t v := hval0
  have hW' := hW
  obtain ⟨p, q, hA0, hV, rfl, hfz, hnd⟩ := hW
  have hA : DataW.TrodAll enc Try.prog W 0 (fun _ => true) true Try.f7.params.toList args.toList ds p := hA0
  rw [Try.params7] at hA hval
  clear hA0 hval0
  obtain ⟨args⟩ := args
  obtain ⟨v0, r0, d0, e0, p0, q0, ha0, rfl, rfl, h0, hA0⟩ := trodAll_cons hA
  simp only at ha0; subst ha0
  obtain ⟨v1, r1, d1, e1, p1, q1, ha1, rfl, rfl, h1, hA1⟩ := trodAll_cons hA0
  subst ha1
  obtain ⟨v2, r2, d2, e2, p2, q2, ha2, rfl, rfl, h2, hA2⟩ := trodAll_cons hA1
  subst ha2
  obtain ⟨v3, r3, d3, e3, p3, q3, ha3, rfl, rfl, h3, hA3⟩ := trodAll_cons hA2
  subst ha3
  obtain ⟨v4, r4, d4, e4, p4, q4, ha4, rfl, rfl, h4, hA4⟩ := trodAll_cons hA3
  subst ha4
  obtain ⟨v5, r5, d5, e5, p5, q5, ha5, rfl, rfl, h5, hA5⟩ := trodAll_cons hA4
  subst ha5
  obtain ⟨rfl, rfl, rfl⟩ := trodAll_nil hA5
  obtain ⟨x0, hx0⟩ := arg_sl 60 orphanWrite_ok0 Try.underlying25 (hval 0 25 v0 rfl rfl) h0
  obtain ⟨x1, rfl, hx1⟩ := arg_int Try.underlying3 (hval 1 3 v1 rfl rfl) h1
  obtain ⟨c2, x2, rfl, hx2⟩ := arg_st 60 orphanWrite_ok2 Try.underlying24 (hval 2 24 v2 rfl rfl) h2
  obtain ⟨x3, rfl, hx3⟩ := arg_int Try.underlying3 (hval 3 3 v3 rfl rfl) h3
  obtain ⟨x4, rfl, hx4⟩ := arg_int Try.underlying3 (hval 4 3 v4 rfl rfl) h4
  obtain ⟨x5, rfl, hx5⟩ := arg_int Try.underlying3 (hval 5 3 v5 rfl rfl) h5
  refine (calls_of (orphanWrite_ok W hx0 x1 hx1 hx2 x3 hx3 x4 hx4 x5 hx5)).mono fun e W' ⟨he, hg⟩ => ?_
  subst he
  exact ⟨_, rfl, law_post hW' hg laidOut_ok (by kernel_rfl) rfl Try.underlying4 rfl rfl rfl rfl⟩
theorem orphanWrite_joined : joinedFacts Try.prog 7 Try.f7 Rows.orphanWriteSpec Rows.orphanWriteRow = true := by
  unfold joinedFacts
  rw [laidOut_ok, mapsRowed_ok, stopsHeard_ok, mayEnter_ok, lifts_ok, make_ok]
  kernel_rfl
theorem orphanWrite_proved : Rows.OrphanWriteSaid :=
  OpenClaim.holds_of_wide 7 Try.f7 rfl rfl rfl rfl rfl rfl rfl ⟨rfl, rfl, rfl, rfl, rfl⟩ rfl rfl rfl rfl rfl (by kernel_rfl) Try.func7 orphanWrite_joined
    (of_decide_eq_true (by kernel_rfl)) (by unfold Func.isWrapper; first | (rw [if_pos (by decide +kernel)]; kernel_rfl) | (rw [if_neg (by decide +kernel)]; exact ⟨rfl, rfl⟩))
    (fun os started H enc _ => orphanWrite_lifted os started H enc)
#print axioms orphanWrite_proved
end
end Go.Proofs.Ytbjkfnnabnacfaa
