/- Part 4 of the proof of LWalKeeps: what it needs of the library, the walks and the plain laws. Conditions: those named in each theorem. -/
import Derived.Test.YtdoamgdanlnlfaaLWalKeepsM3
namespace Go.Proofs.Ytdoamgdanlnlfaa
section
set_option linter.unusedVariables false
set_option linter.unusedSimpArgs false
set_option maxRecDepth 4000
theorem fnOk61 : fnOk Try.prog 61 = true := by kernel_rfl
theorem tst65 : tst Try.prog 65 = some [(0, 1), (1, 1), (2, 1), (3, 1), (4, 1), (5, 4), (9, 1)] := by kernel_rfl
theorem tst98 : tst Try.prog 98 = some [(0, 1), (1, 1), (2, 1), (3, 1)] := by kernel_rfl
theorem tz65 : tz Try.prog 65 = some [.bool false, .bool false, .bool false, .int .i64 0, .int .i64 0, .slice none 0 0, .slice none 0 0, .slice none 0 0, .slice none 0 0, .slice none 0 0] := by kernel_rfl
theorem dNew_ok (W : World) : CallR Try.prog 16 [] W (mnil) (fun v m' => ∃ (s0 : Nat), v = .pointer (some ⟨s0, 0, none⟩) ∧ Ow (.ptr TdiskDisk) m' [.pointer (some ⟨s0, 0, none⟩)] (s0, newD)) := by
  refine CallR.ofA (n := 3) Try.func16 rfl rfl rfl ?_
  refine VC.rs ?_
  refine VO.as ?_
  refine VO.k1 0 ?_
  refine VC.rs ?_
  refine VO.y rfl (.bst (cs := [Value.bool true, Value.bool false, Value.bool false, Value.int .i64 (0), Value.int .i64 (0), Value.slice none (0) (0), Value.slice none (0) (0), Value.slice none (0) (0), Value.slice none (0) (0), Value.slice none (0) (0)]) rfl tst65 tz65 rfl) ?_
  refine VO.box (cs := [Value.bool true, Value.bool false, Value.bool false, Value.int .i64 (0), Value.int .i64 (0), Value.slice none (0) (0), Value.slice none (0) (0), Value.slice none (0) (0), Value.slice none (0) (0), Value.slice none (0) (0)]) 102 rfl rfl rfl (fun g1 => ?_)
  refine VO.as ?_
  refine VO.k1 0 ?_
  refine VC.ret ?_
  refine ⟨_, _, res_run (rs := [.tmp 0]) rfl (.tmp rfl .nil), fun W_ hI => out_of (l := [mone g1 (.cells [Value.bool true, Value.bool false, Value.bool false, Value.int .i64 (0), Value.int .i64 (0), Value.slice none (0) (0), Value.slice none (0) (0), Value.slice none (0) (0), Value.slice none (0) (0), Value.slice none (0) (0)].toArray 65 (0, 0))]) hI [102] rfl rfl (mle_refl _) (fun hS_ => ?_)⟩
  dsimp only [packV]
  have he0 : (newD : DdiskDisk) = (true, false, false, 0, 0, ([], [], [], []), []) := by first | rfl | (simp [*]; done)
  refine ⟨g1, ?_, ?_⟩
  rotate_left
  · rw [he0]; exact (mkP_diskDisk true false false 0 0 [] [] [] [] [] (Seps.nilAt 5 (Seps.nilAt 4 (Seps.nilAt 3 (Seps.nilAt 2 (Seps.nilAt 1 hS_))))) bdk bdk (Ow.nil _ _) (Ow.nil _ _) (Ow.nil _ _) (Ow.nil _ _) (Ow.nil _ _))
  all_goals (first | rfl | (simp [*]; done))
theorem dIs_ok (W : World) (d0 : Int) (h0 : inK .i64 d0) : CallR Try.prog 66 [.int .i64 d0] W (mnil) (fun v m' => v = .bool (decide (inF d0))) := by
  have h0' := h0; simp only [inK] at h0'
  refine CallR.ofA (n := 9) Try.func66 rfl rfl rfl ?_
  refine VC.rs ?_
  refine VO.as ?_
  refine VO.k2 0 2 ?_
  refine VC.rs ?_
  refine VO.mv ?_
  refine VO.y rfl (.geq rfl rfl) ?_
  refine VO.mv ?_
  refine VO.dec (t := 5) rfl (fun hc1 => ?_) (fun hc1 => ?_)
  · -- T
    refine VO.gy rfl ⟨_, rfl, rfl⟩ (.mv rfl) ?_
    refine VO.gy rfl ⟨_, rfl, rfl⟩ (.lss rfl rfl) ?_
    refine VO.y rfl (.pT rfl rfl) ?_
    refine VO.as ?_
    refine VO.k2 0 2 ?_
    refine VC.ret ?_
    refine ⟨_, _, res_run (rs := [.tmp 2]) rfl (.tmp rfl .nil), fun W_ hI => out_of (l := []) hI [] rfl rfl (mle_refl _) (fun hS_ => ?_)⟩
    dsimp only [packV]
    all_goals (first | rfl | (simp [inF, *]))
  · -- F
    refine VO.gN ?_
    refine VO.gN ?_
    refine VO.y rfl (.pF rfl rfl) ?_
    refine VO.as ?_
    refine VO.k2 0 2 ?_
    refine VC.ret ?_
    refine ⟨_, _, res_run (rs := [.tmp 2]) rfl (.tmp rfl .nil), fun W_ hI => out_of (l := []) hI [] rfl rfl (mle_refl _) (fun hS_ => ?_)⟩
    dsimp only [packV]
    all_goals (first | rfl | (simp [inF, *]))
theorem dNone_ok (W : World) {m0 : Mem} (hm : mle (m0) (wm W)) {g0 : Nat} {d0 : DdiskDisk} (h0 : Ow (.ptr TdiskDisk) m0 [.pointer (some ⟨g0, 0, none⟩)] (g0, d0)) : CallR Try.prog 61 [.pointer (some ⟨g0, 0, none⟩)] W (m0) (fun v m' => v = .bool (decide (d0.1 = false)) ∧ Ow (.ptr TdiskDisk) m' [.pointer (some ⟨g0, 0, none⟩)] (g0, d0)) := by
  refine CallR.ofB (n := 12) hm Try.func61 rfl rfl rfl ?_
  refine VC.rs ?_
  refine VO.as ?_
  refine VO.k2 0 2 ?_
  refine VC.rs ?_
  refine VO.mv ?_
  refine VO.y rfl (.pnil rfl rfl Try.underlying37 rfl) ?_
  refine VO.mv ?_
  refine VO.gy rfl ⟨_, rfl, rfl⟩ (.mv rfl) ?_
  refine VO.gy rfl ⟨_, rfl, rfl⟩ (.nilp rfl) ?_
  refine VO.gy rfl ⟨_, rfl, rfl⟩ (.fa rfl tst65 rfl) ?_
  obtain ⟨q1_E, q1_A5, q1_c5, q1_A6, q1_c6, q1_A7, q1_c7, q1_A8, q1_c8, q1_A9, q1_c9, q1_n5, q1_n6, q1_n7, q1_n8, q1_n9, _, q1_S, q1_3, q1_4, q1_5, q1_6, q1_7, q1_8, q1_9⟩ := openP_diskDisk (x0 := d0.1) (x1 := d0.2.1) (x2 := d0.2.2.1) (x3 := d0.2.2.2.1) (x4 := d0.2.2.2.2.1) (x5 := d0.2.2.2.2.2.1.1) (x6 := d0.2.2.2.2.2.1.2.1) (x7 := d0.2.2.2.2.2.1.2.2.1) (x8 := d0.2.2.2.2.2.1.2.2.2) (x9 := d0.2.2.2.2.2.2) h0
  simp only [inK] at q1_3
  simp only [inK] at q1_4
  have q1_r5 := q1_5.rm
  have q1_r6 := q1_6.rm
  have q1_r7 := q1_7.rm
  have q1_r8 := q1_8.rm
  have q1_r9 := q1_9.rm
  refine VO.inv _ (fun _ h => h.parts (i := 1) rfl q1_S [107, 102, 103, 104, 105, 106]) ?_
  refine VO.gy rfl ⟨_, rfl, rfl⟩ (.ld1 107 rfl tk4 rfl (cellsAt_one rfl rfl)) ?_
  refine VO.gy rfl ⟨_, rfl, rfl⟩ (.not rfl) ?_
  refine VO.y rfl (.pF rfl rfl) ?_
  refine VO.as ?_
  refine VO.clsP 108 [107, 102, 103, 104, 105, 106] rfl (fun hg8 => (show Ow (.ptr TdiskDisk) _ _ (_, d0) from (mkP_diskDisk d0.1 d0.2.1 d0.2.2.1 d0.2.2.2.1 d0.2.2.2.2.1 d0.2.2.2.2.2.1.1 d0.2.2.2.2.2.1.2.1 d0.2.2.2.2.2.1.2.2.1 d0.2.2.2.2.2.1.2.2.2 d0.2.2.2.2.2.2 hg8 bdk bdk (OwnL.ow (Ow.ownl q1_5 rfl mnil) rfl) (OwnL.ow (Ow.ownl q1_6 rfl mnil) rfl) (OwnL.ow (Ow.ownl q1_7 rfl mnil) rfl) (OwnL.ow (Ow.ownl q1_8 rfl mnil) rfl) q1_9))) (fun mc8 ho8 => ?_)
  refine VO.k2 0 2 ?_
  refine VC.ret ?_
  refine ⟨_, _, res_run (rs := [.tmp 2]) rfl (.tmp rfl .nil), fun W_ hI => out_of (l := [mc8]) hI [108] rfl rfl (mle_refl _) (fun hS_ => ?_)⟩
  dsimp only [packV]
  have hm0_ : (d0 : DdiskDisk) = d0 := by first | rfl | (simp [*]; done)
  refine ⟨?_, ?_⟩
  rotate_left
  · rw [hm0_]; exact (Ow.up ho8 (hS_.1 _ (.head _)))
  all_goals (first | rfl | (cases d0.1 <;> rfl))
theorem dWrong_ok (W : World) {m0 : Mem} (hm : mle (m0) (wm W)) {g0 : Nat} {d0 : DdiskDisk} (h0 : Ow (.ptr TdiskDisk) m0 [.pointer (some ⟨g0, 0, none⟩)] (g0, d0)) : CallR Try.prog 59 [.pointer (some ⟨g0, 0, none⟩)] W (m0) (fun v m' => v = .int .i64 (wrongD d0) ∧ Ow (.ptr TdiskDisk) m' [.pointer (some ⟨g0, 0, none⟩)] (g0, d0)) := by
  refine CallR.ofB (n := 11) hm Try.func59 rfl rfl rfl ?_
  refine VC.rs ?_
  refine VO.as ?_
  refine VO.k2 0 2 ?_
  refine VC.seq ?_
  refine VC.block ?_
  refine VC.rs ?_
  refine VO.mv ?_
  refine VO.call 1 rfl fnOk61 rfl rfl (fun W hW => dNone_ok W (hW.at (i := 1) rfl) h0) (fun v1 m1 hv1 => ?_)
  obtain ⟨rfl, w1_0⟩ := hv1
  refine VO.as ?_
  refine VO.k3 0 2 3 ?_
  refine VC.cond rfl (fun hc2 => ?_) (fun hc2 => ?_)
  · -- T
    refine VC.rs ?_
    refine VO.as ?_
    refine VO.kp [1, 0] [(1, m1), (0, mout (wm W) (m0))] ?_
    refine VO.k3 0 2 3 ?_
    refine VC.ret ?_
    refine outBR ?_
    refine outR ?_
    refine ⟨_, _, res_run (rs := [.tmp 2]) rfl (.tmp rfl .nil), fun W_ hI => out_of (l := [m1]) hI [1] rfl rfl (mle_refl _) (fun hS_ => ?_)⟩
    dsimp only [packV]
    have hm0_ : (d0 : DdiskDisk) = d0 := by first | rfl | (simp [*]; done)
    refine ⟨?_, ?_⟩
    rotate_left
    · rw [hm0_]; exact (Ow.up w1_0 (hS_.1 _ (.head _)))
    all_goals (first | rfl | (simp [wrongD, *]))
  · -- F
    refine VC.rs ?_
    refine VO.mv ?_
    refine VO.y rfl (.nilp rfl) ?_
    refine VO.y rfl (.fa rfl tst65 rfl) ?_
    obtain ⟨q3_E, q3_A5, q3_c5, q3_A6, q3_c6, q3_A7, q3_c7, q3_A8, q3_c8, q3_A9, q3_c9, q3_n5, q3_n6, q3_n7, q3_n8, q3_n9, _, q3_S, q3_3, q3_4, q3_5, q3_6, q3_7, q3_8, q3_9⟩ := openP_diskDisk (x0 := d0.1) (x1 := d0.2.1) (x2 := d0.2.2.1) (x3 := d0.2.2.2.1) (x4 := d0.2.2.2.2.1) (x5 := d0.2.2.2.2.2.1.1) (x6 := d0.2.2.2.2.2.1.2.1) (x7 := d0.2.2.2.2.2.1.2.2.1) (x8 := d0.2.2.2.2.2.1.2.2.2) (x9 := d0.2.2.2.2.2.2) w1_0
    simp only [inK] at q3_3
    simp only [inK] at q3_4
    have q3_r5 := q3_5.rm
    have q3_r6 := q3_6.rm
    have q3_r7 := q3_7.rm
    have q3_r8 := q3_8.rm
    have q3_r9 := q3_9.rm
    refine VO.inv _ (fun _ h => h.parts (i := 1) rfl q3_S [109, 104, 105, 106, 107, 108]) ?_
    refine VO.y rfl (.ld1 109 rfl tk4 rfl (cellsAt_one rfl rfl)) ?_
    refine VO.as ?_
    refine VO.clsP 110 [109, 104, 105, 106, 107, 108] rfl (fun hg10 => (show Ow (.ptr TdiskDisk) _ _ (_, d0) from (mkP_diskDisk d0.1 d0.2.1 d0.2.2.1 d0.2.2.2.1 d0.2.2.2.2.1 d0.2.2.2.2.2.1.1 d0.2.2.2.2.2.1.2.1 d0.2.2.2.2.2.1.2.2.1 d0.2.2.2.2.2.1.2.2.2 d0.2.2.2.2.2.2 hg10 bdk bdk (OwnL.ow (Ow.ownl q3_5 rfl mnil) rfl) (OwnL.ow (Ow.ownl q3_6 rfl mnil) rfl) (OwnL.ow (Ow.ownl q3_7 rfl mnil) rfl) (OwnL.ow (Ow.ownl q3_8 rfl mnil) rfl) q3_9))) (fun mc10 ho10 => ?_)
    refine VO.kp [110, 0] [(110, mc10), (0, mout (wm W) (m0))] ?_
    refine VO.k4 0 2 3 6 ?_
    refine VC.condB rfl (fun hc11 => ?_) (fun hc11 => ?_)
    · -- FT
      refine VC.rs ?_
      refine VO.as ?_
      refine VO.k4 0 2 3 6 ?_
      refine VC.ret ?_
      refine outBR ?_
      refine outR ?_
      refine ⟨_, _, res_run (rs := [.tmp 2]) rfl (.tmp rfl .nil), fun W_ hI => out_of (l := [mc10]) hI [110] rfl rfl (mle_refl _) (fun hS_ => ?_)⟩
      dsimp only [packV]
      have hm0_ : (d0 : DdiskDisk) = d0 := by first | rfl | (simp [*]; done)
      refine ⟨?_, ?_⟩
      rotate_left
      · rw [hm0_]; exact (Ow.up ho10 (hS_.1 _ (.head _)))
      all_goals (first | rfl | (simp [wrongD, *]))
    · -- FF
      refine VC.skip ?_
      refine outBN ?_
      refine outN ?_
      refine VC.rs ?_
      refine VO.as ?_
      refine VO.k4 0 2 3 6 ?_
      refine VC.ret ?_
      refine ⟨_, _, res_run (rs := [.tmp 2]) rfl (.tmp rfl .nil), fun W_ hI => out_of (l := [mc10]) hI [110] rfl rfl (mle_refl _) (fun hS_ => ?_)⟩
      dsimp only [packV]
      have hm0_ : (d0 : DdiskDisk) = d0 := by first | rfl | (simp [*]; done)
      refine ⟨?_, ?_⟩
      rotate_left
      · rw [hm0_]; exact (Ow.up ho10 (hS_.1 _ (.head _)))
      all_goals (first | rfl | (simp [wrongD, *]))
theorem dBurn_ok (W : World) {m0 : Mem} (hm : mle (m0) (wm W)) {g0 : Nat} {d0 : DdiskDisk} (h0 : Ow (.ptr TdiskDisk) m0 [.pointer (some ⟨g0, 0, none⟩)] (g0, d0)) (e0 : okD d0) (e1 : wD d0 ≤ 2*1000000000000) : CallR Try.prog 79 [.pointer (some ⟨g0, 0, none⟩)] W (m0) (fun v m' => v = .bool (decide ((burnD d0).2 = true)) ∧ Ow (.ptr TdiskDisk) m' [.pointer (some ⟨g0, 0, none⟩)] (g0, (burnD d0).1)) := by
  obtain ⟨hg, hfu, hst⟩ := e0; simp only [wD] at e1
  refine CallR.ofB (n := 29) hm Try.func79 rfl rfl rfl ?_
  refine VC.rs ?_
  refine VO.as ?_
  refine VO.k2 0 2 ?_
  refine VC.seq ?_
  refine VC.rs ?_
  refine VO.mv ?_
  refine VO.y rfl (.nilp rfl) ?_
  refine VO.y rfl (.fa rfl tst65 rfl) ?_
  obtain ⟨q1_E, q1_A5, q1_c5, q1_A6, q1_c6, q1_A7, q1_c7, q1_A8, q1_c8, q1_A9, q1_c9, q1_n5, q1_n6, q1_n7, q1_n8, q1_n9, _, q1_S, q1_3, q1_4, q1_5, q1_6, q1_7, q1_8, q1_9⟩ := openP_diskDisk (x0 := d0.1) (x1 := d0.2.1) (x2 := d0.2.2.1) (x3 := d0.2.2.2.1) (x4 := d0.2.2.2.2.1) (x5 := d0.2.2.2.2.2.1.1) (x6 := d0.2.2.2.2.2.1.2.1) (x7 := d0.2.2.2.2.2.1.2.2.1) (x8 := d0.2.2.2.2.2.1.2.2.2) (x9 := d0.2.2.2.2.2.2) h0
  simp only [inK] at q1_3
  simp only [inK] at q1_4
  have q1_r5 := q1_5.rm
  have q1_r6 := q1_6.rm
  have q1_r7 := q1_7.rm
  have q1_r8 := q1_8.rm
  have q1_r9 := q1_9.rm
  refine VO.inv _ (fun _ h => h.parts (i := 1) rfl q1_S [107, 102, 103, 104, 105, 106]) ?_
  refine VO.y rfl (.ld1 107 rfl tk4 rfl (cellsAt_one rfl rfl)) ?_
  refine VO.clsP 108 [107, 102, 103, 104, 105, 106] rfl (fun hg8 => (show Ow (.ptr TdiskDisk) _ _ (_, d0) from (mkP_diskDisk d0.1 d0.2.1 d0.2.2.1 d0.2.2.2.1 d0.2.2.2.2.1 d0.2.2.2.2.2.1.1 d0.2.2.2.2.2.1.2.1 d0.2.2.2.2.2.1.2.2.1 d0.2.2.2.2.2.1.2.2.2 d0.2.2.2.2.2.2 hg8 bdk bdk (OwnL.ow (Ow.ownl q1_5 rfl mnil) rfl) (OwnL.ow (Ow.ownl q1_6 rfl mnil) rfl) (OwnL.ow (Ow.ownl q1_7 rfl mnil) rfl) (OwnL.ow (Ow.ownl q1_8 rfl mnil) rfl) q1_9))) (fun mc8 ho8 => ?_)
  refine VO.k3 0 2 6 ?_
  refine VC.condB rfl (fun hc9 => ?_) (fun hc9 => ?_)
  · -- T
    refine VC.seq ?_
    refine VC.rs ?_
    refine VO.mv ?_
    refine VO.y rfl (.nilp rfl) ?_
    refine VO.y rfl (.fa rfl tst65 rfl) ?_
    obtain ⟨q10_E, q10_A5, q10_c5, q10_A6, q10_c6, q10_A7, q10_c7, q10_A8, q10_c8, q10_A9, q10_c9, q10_n5, q10_n6, q10_n7, q10_n8, q10_n9, _, q10_S, q10_3, q10_4, q10_5, q10_6, q10_7, q10_8, q10_9⟩ := openP_diskDisk (x0 := d0.1) (x1 := d0.2.1) (x2 := d0.2.2.1) (x3 := d0.2.2.2.1) (x4 := d0.2.2.2.2.1) (x5 := d0.2.2.2.2.2.1.1) (x6 := d0.2.2.2.2.2.1.2.1) (x7 := d0.2.2.2.2.2.1.2.2.1) (x8 := d0.2.2.2.2.2.1.2.2.2) (x9 := d0.2.2.2.2.2.2) ho8
    simp only [inK] at q10_3
    simp only [inK] at q10_4
    have q10_r5 := q10_5.rm
    have q10_r6 := q10_6.rm
    have q10_r7 := q10_7.rm
    have q10_r8 := q10_8.rm
    have q10_r9 := q10_9.rm
    refine VO.inv _ (fun _ h => h.parts (i := 108) rfl q10_S [116, 111, 112, 113, 114, 115]) ?_
    refine VO.y rfl (.ld1 116 rfl tk3 rfl (cellsAt_one rfl rfl)) ?_
    refine VO.y rfl (.eql rfl rfl) ?_
    refine VO.clsP 117 [116, 111, 112, 113, 114, 115] rfl (fun hg17 => (show Ow (.ptr TdiskDisk) _ _ (_, d0) from (mkP_diskDisk d0.1 d0.2.1 d0.2.2.1 d0.2.2.2.1 d0.2.2.2.2.1 d0.2.2.2.2.2.1.1 d0.2.2.2.2.2.1.2.1 d0.2.2.2.2.2.1.2.2.1 d0.2.2.2.2.2.1.2.2.2 d0.2.2.2.2.2.2 hg17 bdk bdk (OwnL.ow (Ow.ownl q10_5 rfl mnil) rfl) (OwnL.ow (Ow.ownl q10_6 rfl mnil) rfl) (OwnL.ow (Ow.ownl q10_7 rfl mnil) rfl) (OwnL.ow (Ow.ownl q10_8 rfl mnil) rfl) q10_9))) (fun mc17 ho17 => ?_)
    refine VO.kp [117, 0] [(117, mc17), (0, mout (wm W) (m0))] ?_
    refine VO.k4 0 2 6 11 ?_
    refine VC.cond rfl (fun hc18 => ?_) (fun hc18 => ?_)
    · -- TT
      refine VC.rs ?_
      refine VO.mv ?_
      refine VO.y rfl (.nilp rfl) ?_
      refine VO.y rfl (.fa rfl tst65 rfl) ?_
      obtain ⟨q19_E, q19_A5, q19_c5, q19_A6, q19_c6, q19_A7, q19_c7, q19_A8, q19_c8, q19_A9, q19_c9, q19_n5, q19_n6, q19_n7, q19_n8, q19_n9, _, q19_S, q19_3, q19_4, q19_5, q19_6, q19_7, q19_8, q19_9⟩ := openP_diskDisk (x0 := d0.1) (x1 := d0.2.1) (x2 := d0.2.2.1) (x3 := d0.2.2.2.1) (x4 := d0.2.2.2.2.1) (x5 := d0.2.2.2.2.2.1.1) (x6 := d0.2.2.2.2.2.1.2.1) (x7 := d0.2.2.2.2.2.1.2.2.1) (x8 := d0.2.2.2.2.2.1.2.2.2) (x9 := d0.2.2.2.2.2.2) ho17
      simp only [inK] at q19_3
      simp only [inK] at q19_4
      have q19_r5 := q19_5.rm
      have q19_r6 := q19_6.rm
      have q19_r7 := q19_7.rm
      have q19_r8 := q19_8.rm
      have q19_r9 := q19_9.rm
      refine VO.inv _ (fun _ h => h.parts (i := 117) rfl q19_S [125, 120, 121, 122, 123, 124]) ?_
      refine VO.store (k := 1) 125 rfl rfl (.inr ⟨tk4, rfl⟩) rfl rfl rfl rfl rfl ?_
      refine VO.clsP 126 [125, 120, 121, 122, 123, 124] rfl (fun hg26 => (mkP_diskDisk d0.1 true d0.2.2.1 d0.2.2.2.1 d0.2.2.2.2.1 d0.2.2.2.2.2.1.1 d0.2.2.2.2.2.1.2.1 d0.2.2.2.2.2.1.2.2.1 d0.2.2.2.2.2.1.2.2.2 d0.2.2.2.2.2.2 hg26 bdk bdk (OwnL.ow (Ow.ownl q19_5 rfl mnil) rfl) (OwnL.ow (Ow.ownl q19_6 rfl mnil) rfl) (OwnL.ow (Ow.ownl q19_7 rfl mnil) rfl) (OwnL.ow (Ow.ownl q19_8 rfl mnil) rfl) q19_9)) (fun mc26 ho26 => ?_)
      refine VO.k4 0 2 6 11 ?_
      refine VC.rs ?_
      refine VO.as ?_
      refine VO.k4 0 2 6 11 ?_
      refine VC.ret ?_
      refine outR ?_
      refine outR ?_
      refine ⟨_, _, res_run (rs := [.tmp 2]) rfl (.tmp rfl .nil), fun W_ hI => out_of (l := [mc26]) hI [126] rfl rfl (mle_refl _) (fun hS_ => ?_)⟩
      dsimp only [packV]
      have hm0_ : ((burnD d0).1 : DdiskDisk) = (d0.1, true, d0.2.2) := by first | rfl | (simp [burnD, *]; done)
      refine ⟨?_, ?_⟩
      rotate_left
      · rw [hm0_]; exact (Ow.up ho26 (hS_.1 _ (.head _)))
      all_goals (first | rfl | (simp [burnD, *]; done))
    · -- TF
      refine VC.skip ?_
      refine outN ?_
      refine VC.reg ?_
      refine VO.mv ?_
      refine VO.y rfl (.nilp rfl) ?_
      refine VO.y rfl (.fa rfl tst65 rfl) ?_
      obtain ⟨q27_E, q27_A5, q27_c5, q27_A6, q27_c6, q27_A7, q27_c7, q27_A8, q27_c8, q27_A9, q27_c9, q27_n5, q27_n6, q27_n7, q27_n8, q27_n9, _, q27_S, q27_3, q27_4, q27_5, q27_6, q27_7, q27_8, q27_9⟩ := openP_diskDisk (x0 := d0.1) (x1 := d0.2.1) (x2 := d0.2.2.1) (x3 := d0.2.2.2.1) (x4 := d0.2.2.2.2.1) (x5 := d0.2.2.2.2.2.1.1) (x6 := d0.2.2.2.2.2.1.2.1) (x7 := d0.2.2.2.2.2.1.2.2.1) (x8 := d0.2.2.2.2.2.1.2.2.2) (x9 := d0.2.2.2.2.2.2) ho17
      simp only [inK] at q27_3
      simp only [inK] at q27_4
      have q27_r5 := q27_5.rm
      have q27_r6 := q27_6.rm
      have q27_r7 := q27_7.rm
      have q27_r8 := q27_8.rm
      have q27_r9 := q27_9.rm
      refine VO.inv _ (fun _ h => h.parts (i := 117) rfl q27_S [133, 128, 129, 130, 131, 132]) ?_
      refine VO.y rfl (.ld1 133 rfl tk3 rfl (cellsAt_one rfl rfl)) ?_
      refine VO.y rfl (.sub rfl rfl rfl ⟨bd, bd⟩) ?_
      refine VO.y rfl (.nilp rfl) ?_
      refine VO.y rfl (.fa rfl tst65 rfl) ?_
      refine VO.store (k := 1) 133 rfl rfl (.inr ⟨tk3, rfl⟩) rfl rfl rfl rfl rfl ?_
      refine VO.clsP 134 [133, 128, 129, 130, 131, 132] rfl (fun hg34 => (mkP_diskDisk d0.1 d0.2.1 d0.2.2.1 (d0.2.2.2.1 - 1) d0.2.2.2.2.1 d0.2.2.2.2.2.1.1 d0.2.2.2.2.2.1.2.1 d0.2.2.2.2.2.1.2.2.1 d0.2.2.2.2.2.1.2.2.2 d0.2.2.2.2.2.2 hg34 bdk bdk (OwnL.ow (Ow.ownl q27_5 rfl mnil) rfl) (OwnL.ow (Ow.ownl q27_6 rfl mnil) rfl) (OwnL.ow (Ow.ownl q27_7 rfl mnil) rfl) (OwnL.ow (Ow.ownl q27_8 rfl mnil) rfl) q27_9)) (fun mc34 ho34 => ?_)
      refine VO.k4 0 2 6 11 ?_
      refine outN ?_
      refine VC.rs ?_
      refine VO.mv ?_
      refine VO.y rfl (.nilp rfl) ?_
      refine VO.y rfl (.fa rfl tst65 rfl) ?_
      obtain ⟨q35_E, q35_A5, q35_c5, q35_A6, q35_c6, q35_A7, q35_c7, q35_A8, q35_c8, q35_A9, q35_c9, q35_n5, q35_n6, q35_n7, q35_n8, q35_n9, _, q35_S, q35_3, q35_4, q35_5, q35_6, q35_7, q35_8, q35_9⟩ := openP_diskDisk (x0 := d0.1) (x1 := d0.2.1) (x2 := d0.2.2.1) (x3 := d0.2.2.2.1 - 1) (x4 := d0.2.2.2.2.1) (x5 := d0.2.2.2.2.2.1.1) (x6 := d0.2.2.2.2.2.1.2.1) (x7 := d0.2.2.2.2.2.1.2.2.1) (x8 := d0.2.2.2.2.2.1.2.2.2) (x9 := d0.2.2.2.2.2.2) ho34
      simp only [inK] at q35_3
      simp only [inK] at q35_4
      have q35_r5 := q35_5.rm
      have q35_r6 := q35_6.rm
      have q35_r7 := q35_7.rm
      have q35_r8 := q35_8.rm
      have q35_r9 := q35_9.rm
      refine VO.inv _ (fun _ h => h.parts (i := 134) rfl q35_S [141, 136, 137, 138, 139, 140]) ?_
      refine VO.y rfl (.ld1 141 rfl tk3 rfl (cellsAt_one rfl rfl)) ?_
      refine VO.y rfl (.add rfl rfl rfl ⟨bd, bd⟩) ?_
      refine VO.y rfl (.nilp rfl) ?_
      refine VO.y rfl (.fa rfl tst65 rfl) ?_
      refine VO.store (k := 1) 141 rfl rfl (.inr ⟨tk3, rfl⟩) rfl rfl rfl rfl rfl ?_
      refine VO.clsP 142 [141, 136, 137, 138, 139, 140] rfl (fun hg42 => (mkP_diskDisk d0.1 d0.2.1 d0.2.2.1 (d0.2.2.2.1 - 1) (d0.2.2.2.2.1 + 1) d0.2.2.2.2.2.1.1 d0.2.2.2.2.2.1.2.1 d0.2.2.2.2.2.1.2.2.1 d0.2.2.2.2.2.1.2.2.2 d0.2.2.2.2.2.2 hg42 bdk bdk (OwnL.ow (Ow.ownl q35_5 rfl mnil) rfl) (OwnL.ow (Ow.ownl q35_6 rfl mnil) rfl) (OwnL.ow (Ow.ownl q35_7 rfl mnil) rfl) (OwnL.ow (Ow.ownl q35_8 rfl mnil) rfl) q35_9)) (fun mc42 ho42 => ?_)
      refine VO.k4 0 2 6 11 ?_
      refine VC.rs ?_
      refine VO.as ?_
      refine VO.kp [142, 0] [(142, mc42), (0, mout (wm W) (m0))] ?_
      refine VO.k4 0 2 6 11 ?_
      refine VC.ret ?_
      refine ⟨_, _, res_run (rs := [.tmp 2]) rfl (.tmp rfl .nil), fun W_ hI => out_of (l := [mc42]) hI [142] rfl rfl (mle_refl _) (fun hS_ => ?_)⟩
      dsimp only [packV]
      have hm0_ : ((burnD d0).1 : DdiskDisk) = (d0.1, d0.2.1, d0.2.2.1, d0.2.2.2.1 - 1, d0.2.2.2.2.1 + 1, d0.2.2.2.2.2) := by first | rfl | (simp [burnD, *]; done)
      refine ⟨?_, ?_⟩
      rotate_left
      · rw [hm0_]; exact (Ow.up ho42 (hS_.1 _ (.head _)))
      all_goals (first | rfl | (simp [burnD, *]; done))
  · -- F
    refine VC.skip ?_
    refine outN ?_
    refine VC.rs ?_
    refine VO.mv ?_
    refine VO.y rfl (.nilp rfl) ?_
    refine VO.y rfl (.fa rfl tst65 rfl) ?_
    obtain ⟨q43_E, q43_A5, q43_c5, q43_A6, q43_c6, q43_A7, q43_c7, q43_A8, q43_c8, q43_A9, q43_c9, q43_n5, q43_n6, q43_n7, q43_n8, q43_n9, _, q43_S, q43_3, q43_4, q43_5, q43_6, q43_7, q43_8, q43_9⟩ := openP_diskDisk (x0 := d0.1) (x1 := d0.2.1) (x2 := d0.2.2.1) (x3 := d0.2.2.2.1) (x4 := d0.2.2.2.2.1) (x5 := d0.2.2.2.2.2.1.1) (x6 := d0.2.2.2.2.2.1.2.1) (x7 := d0.2.2.2.2.2.1.2.2.1) (x8 := d0.2.2.2.2.2.1.2.2.2) (x9 := d0.2.2.2.2.2.2) ho8
    simp only [inK] at q43_3
    simp only [inK] at q43_4
    have q43_r5 := q43_5.rm
    have q43_r6 := q43_6.rm
    have q43_r7 := q43_7.rm
    have q43_r8 := q43_8.rm
    have q43_r9 := q43_9.rm
    refine VO.inv _ (fun _ h => h.parts (i := 108) rfl q43_S [149, 144, 145, 146, 147, 148]) ?_
    refine VO.y rfl (.ld1 149 rfl tk3 rfl (cellsAt_one rfl rfl)) ?_
    refine VO.y rfl (.add rfl rfl rfl ⟨bd, bd⟩) ?_
    refine VO.y rfl (.nilp rfl) ?_
    refine VO.y rfl (.fa rfl tst65 rfl) ?_
    refine VO.store (k := 1) 149 rfl rfl (.inr ⟨tk3, rfl⟩) rfl rfl rfl rfl rfl ?_
    refine VO.clsP 150 [149, 144, 145, 146, 147, 148] rfl (fun hg50 => (mkP_diskDisk d0.1 d0.2.1 d0.2.2.1 d0.2.2.2.1 (d0.2.2.2.2.1 + 1) d0.2.2.2.2.2.1.1 d0.2.2.2.2.2.1.2.1 d0.2.2.2.2.2.1.2.2.1 d0.2.2.2.2.2.1.2.2.2 d0.2.2.2.2.2.2 hg50 bdk bdk (OwnL.ow (Ow.ownl q43_5 rfl mnil) rfl) (OwnL.ow (Ow.ownl q43_6 rfl mnil) rfl) (OwnL.ow (Ow.ownl q43_7 rfl mnil) rfl) (OwnL.ow (Ow.ownl q43_8 rfl mnil) rfl) q43_9)) (fun mc50 ho50 => ?_)
    refine VO.kp [150, 0] [(150, mc50), (0, mout (wm W) (m0))] ?_
    refine VO.k3 0 2 6 ?_
    refine VC.rs ?_
    refine VO.as ?_
    refine VO.k3 0 2 6 ?_
    refine VC.ret ?_
    refine ⟨_, _, res_run (rs := [.tmp 2]) rfl (.tmp rfl .nil), fun W_ hI => out_of (l := [mc50]) hI [150] rfl rfl (mle_refl _) (fun hS_ => ?_)⟩
    dsimp only [packV]
    have hm0_ : ((burnD d0).1 : DdiskDisk) = (d0.1, d0.2.1, d0.2.2.1, d0.2.2.2.1, d0.2.2.2.2.1 + 1, d0.2.2.2.2.2) := by first | rfl | (simp [burnD, *]; done)
    refine ⟨?_, ?_⟩
    rotate_left
    · rw [hm0_]; exact (Ow.up ho50 (hS_.1 _ (.head _)))
    all_goals (first | rfl | (simp [burnD, *]; done))
theorem dDone_ok (W : World) {m0 : Mem} (hm : mle (m0) (wm W)) {v0 : Value} {d0 : List UInt8} (h0 : Ow (.sl .byte) m0 [v0] d0) {v1 : List Value} {d1 : Ddiskstep} (h1 : Rd Tdiskstep (mout (wm W) (m0)) v1 d1) (e0 : d1.1 = 1 → 0 ≤ d1.2.2.2 ∧ d1.2.2.2 ≤ d0.length) (e1 : d0.length + d1.2.2.1.length ≤ 140737488355000) : CallR Try.prog 63 [v0, .agg v1.toArray] W (m0) (fun v m' => ∃ (s0 : Value), v = s0 ∧ Ow (.sl .byte) m' [s0] (doneB d0 d1)) := by
  obtain ⟨A0, c0, e0_, l0, k0⟩ := h0.slice
  subst e0_
  simp only [maxLen] at k0
  obtain ⟨p1_A2, p1_c2, rfl, p1_0, p1_1, p1_2, p1_3⟩ := open_diskstep (x0 := d1.1) (x1 := d1.2.1) (x2 := d1.2.2.1) (x3 := d1.2.2.2) h1
  simp only [inK] at p1_0
  simp only [inK] at p1_1
  have p1_r2 := Rd.room p1_2
  simp only [inK] at p1_3
  refine CallR.ofB (n := 20) hm Try.func63 rfl rfl rfl ?_
  refine VC.rs ?_
  refine VO.box (cs := [Value.int .i64 (d1.1), Value.int .i64 (d1.2.1), Value.slice p1_A2 (d1.2.2.1.length) (p1_c2), Value.int .i64 (d1.2.2.2)]) 102 rfl rfl rfl (fun g1 => ?_)
  refine VO.as ?_
  refine VO.k4 0 1 3 4 ?_
  refine VC.seq ?_
  refine VC.rs ?_
  refine VO.y rfl (.fa rfl tst98 rfl) ?_
  refine VO.y rfl (.ld1 102 rfl tk3 rfl (cellsAt_one rfl rfl)) ?_
  refine VO.k5 0 1 3 4 6 ?_
  refine VC.block ?_
  refine VC.rs ?_
  refine VO.y rfl (.eql rfl rfl) ?_
  refine VO.as ?_
  refine VO.kp [102, 0, 1] [(102, mone g1 (.cells [Value.int .i64 (d1.1), Value.int .i64 (d1.2.1), Value.slice p1_A2 (d1.2.2.1.length) (p1_c2), Value.int .i64 (d1.2.2.2)].toArray 98 (0, 0))), (0, mout (wm W) (m0)), (1, m0)] ?_
  refine VO.k6 0 1 3 4 6 7 ?_
  refine VC.cond rfl (fun hc3 => ?_) (fun hc3 => ?_)
  · -- T
    refine VC.rs ?_
    refine VO.mv ?_
    refine VO.y rfl (.fa rfl tst98 rfl) ?_
    refine VO.y rfl (.ld1 102 rfl tk22 rfl (cellsAt_one rfl rfl)) ?_
    obtain ⟨mo4, cs4, hM4, hA4, hC4⟩ := (Ow.ownl h0 rfl mnil)
    obtain ⟨all4, hS4, hR4⟩ := Rd.srcI (P := Try.prog) (p1_2) Try.underlying22
    refine VO.app 1 rfl rfl rfl tsl22 tz5 rfl rfl hM4 hA4 (hS4 _ 0 rfl) hR4.nice bdm bd (by decide) (fun v4 m4 hN4 => ?_)
    have ho4 : OwnL .byte m4 mnil v4 (d0 ++ d1.2.2.1) := OwnL.more hC4 hN4 (All2c.mono hR4 fun _ _ h => Rd.flat rfl h _)
    obtain ⟨A4, c4, rfl, l4, k4⟩ := ho4.slice
    simp only [maxLen] at k4
    refine VO.as ?_
    refine VO.k6 0 1 3 4 6 7 ?_
    refine VC.ret ?_
    refine outBR ?_
    refine outR ?_
    refine ⟨_, _, res_run (rs := [.tmp 4]) rfl (.tmp rfl .nil), fun W_ hI => out_of (l := [m4]) hI [1] rfl rfl (mle_refl _) (fun hS_ => ?_)⟩
    dsimp only [packV]
    have he0 : (doneB d0 d1 : Ty.Den (.sl .byte)) = d0 ++ d1.2.2.1 := by first | rfl | (simp [doneB, *]; done)
    refine ⟨Value.slice A4 ((d0 ++ d1.2.2.1).length) (c4), ?_, ?_⟩
    rotate_left
    · rw [he0]; exact (Ow.up (OwnL.ow ho4 rfl) (hS_.1 _ (.head _)))
    all_goals (first | rfl | (simp [*]; done))
  · -- F
    refine VC.rs ?_
    refine VO.y rfl (.eql rfl rfl) ?_
    refine VO.as ?_
    refine VO.k7 0 1 3 4 6 7 13 ?_
    refine VC.cond rfl (fun hc5 => ?_) (fun hc5 => ?_)
    · -- FT
      refine VC.rs ?_
      refine VO.mv ?_
      refine VO.y rfl (.fa rfl tst98 rfl) ?_
      refine VO.y rfl (.ld1 102 rfl tk3 rfl (cellsAt_one rfl rfl)) ?_
      have hs6 := (OwnL.rd (Ow.ownl h0 rfl mnil) (mle_refl _) (mle_nil _)).pre (j := ((d1.2.2.2).toNat)) bd
      refine VO.y rfl (.slHI ((d1.2.2.2).toNat) rfl rfl tsl22 bd bd) ?_
      refine VO.as ?_
      refine VO.k7 0 1 3 4 6 7 13 ?_
      refine VC.ret ?_
      refine outBR ?_
      refine outR ?_
      refine ⟨_, _, res_run (rs := [.tmp 4]) rfl (.tmp rfl .nil), fun W_ hI => out_of (l := [m0]) hI [1] rfl rfl (mle_refl _) (fun hS_ => ?_)⟩
      dsimp only [packV]
      have he0 : (doneB d0 d1 : Ty.Den (.sl .byte)) = (d0).take ((d1.2.2.2).toNat) := by first | rfl | (simp [doneB, *]; done)
      refine ⟨Value.slice A0 ((d1.2.2.2).toNat) (c0), ?_, ?_⟩
      rotate_left
      · rw [he0]; exact (Ow.up (OwnL.ow ((Ow.ownl h0 rfl mnil).pre (j := ((d1.2.2.2).toNat)) bd) rfl) (hS_.1 _ (.head _)))
      all_goals (first | rfl | (simp [*]; done))
    · -- FF
      refine VC.skip ?_
      refine outBN ?_
      refine outN ?_
      refine VC.rs ?_
      refine VO.mv ?_
      refine VO.as ?_
      refine VO.k7 0 1 3 4 6 7 13 ?_
      refine VC.ret ?_
      refine ⟨_, _, res_run (rs := [.tmp 4]) rfl (.tmp rfl .nil), fun W_ hI => out_of (l := [m0]) hI [1] rfl rfl (mle_refl _) (fun hS_ => ?_)⟩
      dsimp only [packV]
      have he0 : (doneB d0 d1 : Ty.Den (.sl .byte)) = d0 := by first | rfl | (simp [doneB, *]; done)
      refine ⟨Value.slice A0 (d0.length) (c0), ?_, ?_⟩
      rotate_left
      · rw [he0]; exact (Ow.up (OwnL.ow (Ow.ownl h0 rfl mnil) rfl) (hS_.1 _ (.head _)))
      all_goals (first | rfl | (simp [*]; done))
end
section
set_option linter.unusedVariables false
set_option linter.unusedSimpArgs false
set_option maxRecDepth 4000
theorem fnOk63 : fnOk Try.prog 63 = true := by kernel_rfl
theorem tar62 : tar Try.prog 62 = some (4, 1) := by kernel_rfl
theorem tk63 : tk Try.prog 63 = some none := by kernel_rfl
theorem tk98 : tk Try.prog 98 = some (some 4) := by kernel_rfl
theorem tsl63 : tsl Try.prog 63 = some (98, 4, 48) := by kernel_rfl
theorem tz98 : tz Try.prog 98 = some [.int .i64 0, .int .i64 0, .slice none 0 0, .int .i64 0] := by kernel_rfl
theorem dHeld_ok (W : World) {m0 : Mem} (hm : mle (m0) (wm W)) {g0 : Nat} {d0 : DdiskDisk} (h0 : Ow (.ptr TdiskDisk) m0 [.pointer (some ⟨g0, 0, none⟩)] (g0, d0)) (d1 : Int) (h1 : inK .i64 d1) (e0 : okD d0) (e1 : wD d0 ≤ 2*1000000000000) (e2 : inF d1) : CallR Try.prog 67 [.pointer (some ⟨g0, 0, none⟩), .int .i64 d1] W (m0) (fun v m' => ∃ (s0 : Value), ∃ (p0 : Mem), ∃ (p1 : Mem), v = s0 ∧ Seps m' [p0, p1] ∧ Ow (.sl .byte) p0 [s0] (heldB d0.2.2.2.2.2.1 d0.2.2.2.2.2.2 d1) ∧ Ow (.ptr TdiskDisk) p1 [.pointer (some ⟨g0, 0, none⟩)] (g0, d0)) := by
  obtain ⟨hg, hfu, hst⟩ := e0; simp only [wD, sizeQ] at e1; have hin := e2; simp only [inF] at hin
  have h1' := h1; simp only [inK] at h1'
  refine CallR.ofB (n := 33) hm Try.func67 rfl rfl rfl ?_
  refine VC.rs ?_
  refine VO.as ?_
  refine VO.k3 0 1 4 ?_
  refine VC.rs ?_
  refine VO.mv ?_
  refine VO.mv ?_
  refine VO.y rfl (.nilp rfl) ?_
  refine VO.y rfl (.fa rfl tst65 rfl) ?_
  rcases (show d1 = (0 : Int) ∨ d1 = (1 : Int) ∨ d1 = (2 : Int) ∨ d1 = (3 : Int) from by first | omega | (simp only [List.length_append, List.length_nil, List.length_cons, List.length_take, List.length_drop] at *; omega)) with hi1 | hi1 | hi1 | hi1
  · -- 0
    refine VO.y rfl (.ixa (i := 0) (o := 5) rfl rfl tar62 hi1 rfl rfl) ?_
    obtain ⟨q2_E, q2_A5, q2_c5, q2_A6, q2_c6, q2_A7, q2_c7, q2_A8, q2_c8, q2_A9, q2_c9, q2_n5, q2_n6, q2_n7, q2_n8, q2_n9, _, q2_S, q2_3, q2_4, q2_5, q2_6, q2_7, q2_8, q2_9⟩ := openP_diskDisk (x0 := d0.1) (x1 := d0.2.1) (x2 := d0.2.2.1) (x3 := d0.2.2.2.1) (x4 := d0.2.2.2.2.1) (x5 := d0.2.2.2.2.2.1.1) (x6 := d0.2.2.2.2.2.1.2.1) (x7 := d0.2.2.2.2.2.1.2.2.1) (x8 := d0.2.2.2.2.2.1.2.2.2) (x9 := d0.2.2.2.2.2.2) h0
    simp only [inK] at q2_3
    simp only [inK] at q2_4
    have q2_r5 := q2_5.rm
    have q2_r6 := q2_6.rm
    have q2_r7 := q2_7.rm
    have q2_r8 := q2_8.rm
    have q2_r9 := q2_9.rm
    refine VO.inv _ (fun _ h => h.parts (i := 1) rfl q2_S [108, 103, 104, 105, 106, 107]) ?_
    refine VO.y rfl (.ld1 108 rfl tk22 rfl (cellsAt_one rfl rfl)) ?_
    refine VO.inv _ (fun _ h => h.nilc 110) ?_
    obtain ⟨mo9, cs9, hM9, hA9, hC9⟩ := (OwnL.nil .byte mnil mnil)
    obtain ⟨all9, hS9, hR9⟩ := Rd.srcI (P := Try.prog) ((OwnL.rd (Ow.ownl q2_5 rfl mnil) (mle_refl _) (mle_nil _))) Try.underlying22
    refine VO.app 110 rfl rfl rfl tsl22 tz5 rfl rfl hM9 hA9 (hS9 _ 103 rfl) hR9.nice bdm bd (by decide) (fun v9 m9 hN9 => ?_)
    have ho9 : OwnL .byte m9 mnil v9 (d0.2.2.2.2.2.1.1) := OwnL.more hC9 hN9 (All2c.mono hR9 fun _ _ h => Rd.flat rfl h _)
    obtain ⟨A9, c9, rfl, l9, k9⟩ := ho9.slice
    simp only [maxLen] at k9
    refine VO.as ?_
    refine VO.clsP 111 [108, 103, 104, 105, 106, 107] rfl (fun hg11 => (show Ow (.ptr TdiskDisk) _ _ (_, d0) from (mkP_diskDisk d0.1 d0.2.1 d0.2.2.1 d0.2.2.2.1 d0.2.2.2.2.1 d0.2.2.2.2.2.1.1 d0.2.2.2.2.2.1.2.1 d0.2.2.2.2.2.1.2.2.1 d0.2.2.2.2.2.1.2.2.2 d0.2.2.2.2.2.2 hg11 bdk bdk (OwnL.ow (Ow.ownl q2_5 rfl mnil) rfl) (OwnL.ow (Ow.ownl q2_6 rfl mnil) rfl) (OwnL.ow (Ow.ownl q2_7 rfl mnil) rfl) (OwnL.ow (Ow.ownl q2_8 rfl mnil) rfl) q2_9))) (fun mc11 ho11 => ?_)
    refine VO.k4 0 1 4 5 ?_
    refine VC.seq ?_
    refine VC.rs ?_
    refine VO.mv ?_
    refine VO.y rfl (.nilp rfl) ?_
    refine VO.y rfl (.fa rfl tst65 rfl) ?_
    obtain ⟨q12_E, q12_A5, q12_c5, q12_A6, q12_c6, q12_A7, q12_c7, q12_A8, q12_c8, q12_A9, q12_c9, q12_n5, q12_n6, q12_n7, q12_n8, q12_n9, _, q12_S, q12_3, q12_4, q12_5, q12_6, q12_7, q12_8, q12_9⟩ := openP_diskDisk (x0 := d0.1) (x1 := d0.2.1) (x2 := d0.2.2.1) (x3 := d0.2.2.2.1) (x4 := d0.2.2.2.2.1) (x5 := d0.2.2.2.2.2.1.1) (x6 := d0.2.2.2.2.2.1.2.1) (x7 := d0.2.2.2.2.2.1.2.2.1) (x8 := d0.2.2.2.2.2.1.2.2.2) (x9 := d0.2.2.2.2.2.2) ho11
    simp only [inK] at q12_3
    simp only [inK] at q12_4
    have q12_r5 := q12_5.rm
    have q12_r6 := q12_6.rm
    have q12_r7 := q12_7.rm
    have q12_r8 := q12_8.rm
    have q12_r9 := q12_9.rm
    refine VO.inv _ (fun _ h => h.parts (i := 111) rfl q12_S [118, 113, 114, 115, 116, 117]) ?_
    refine VO.y rfl (.ld1 118 rfl tk63 rfl (cellsAt_one rfl rfl)) ?_
    refine VO.y rfl (.lenS rfl tsl63) ?_
    refine VO.mv ?_
    refine VO.kp [118, 113, 114, 115, 116, 117, 110, 0] [(118, mone g0 (.cells [Value.bool d0.1, Value.bool d0.2.1, Value.bool d0.2.2.1, Value.int .i64 (d0.2.2.2.1), Value.int .i64 (d0.2.2.2.2.1), Value.slice q12_A5 (d0.2.2.2.2.2.1.1.length) (q12_c5), Value.slice q12_A6 (d0.2.2.2.2.2.1.2.1.length) (q12_c6), Value.slice q12_A7 (d0.2.2.2.2.2.1.2.2.1.length) (q12_c7), Value.slice q12_A8 (d0.2.2.2.2.2.1.2.2.2.length) (q12_c8), Value.slice q12_A9 (d0.2.2.2.2.2.2.length) (q12_c9)].toArray q12_E (0, 0))), (113, q12_n5), (114, q12_n6), (115, q12_n7), (116, q12_n8), (117, q12_n9), (110, m9), (0, mout (wm W) (m0))] ?_
    refine VO.k7 0 1 4 5 18 19 20 ?_
    refine VC.block ?_
    refine VC.loop (G := Nat × (List UInt8) × (Option Addr) × Nat × Mem) (fun g => [(5, Value.slice (g.2.2.1) ((g.2.1).length) ((g.2.2.2.1))), (20, Value.int .i64 ((((g.1) : Nat) : Int))), (0, Value.pointer (some ⟨g0, 0, none⟩)), (1, Value.int .i64 (d1)), (4, Value.slice none (0) (0)), (18, Value.slice q12_A9 (d0.2.2.2.2.2.2.length) (q12_c9)), (19, Value.int .i64 (((d0.2.2.2.2.2.2.length : Nat) : Int)))]) (fun g => [(118, mone g0 (.cells [Value.bool d0.1, Value.bool d0.2.1, Value.bool d0.2.2.1, Value.int .i64 (d0.2.2.2.1), Value.int .i64 (d0.2.2.2.2.1), Value.slice q12_A5 (d0.2.2.2.2.2.1.1.length) (q12_c5), Value.slice q12_A6 (d0.2.2.2.2.2.1.2.1.length) (q12_c6), Value.slice q12_A7 (d0.2.2.2.2.2.1.2.2.1.length) (q12_c7), Value.slice q12_A8 (d0.2.2.2.2.2.1.2.2.2.length) (q12_c8), Value.slice q12_A9 (d0.2.2.2.2.2.2.length) (q12_c9)].toArray q12_E (0, 0))), (113, q12_n5), (114, q12_n6), (115, q12_n7), (116, q12_n8), (117, q12_n9), (110, (g.2.2.2.2)), (0, mout (wm W) (m0))]) (fun g => ((g.1) ≤ d0.2.2.2.2.2.2.length) ∧ ((g.2.1) = heldB d0.2.2.2.2.2.1 (d0.2.2.2.2.2.2.take (g.1)) d1) ∧ (OwnL .byte (g.2.2.2.2) mnil (.slice (g.2.2.1) (g.2.1).length (g.2.2.2.1)) (g.2.1))) (fun g => d0.2.2.2.2.2.2.length - (g.1)) (0, d0.2.2.2.2.2.1.1, A9, c9, m9) (⟨by omega, by first | exact (getF0 ‹d1 = (0 : Int)›).symm | exact (getF1 ‹d1 = (1 : Int)›).symm | exact (getF2 ‹d1 = (2 : Int)›).symm | exact (getF3 ‹d1 = (3 : Int)›).symm, ho9⟩) ⟨⟨rfl, rfl, rfl, rfl, rfl, rfl, rfl, trivial⟩, fun _ h => h.sub [118, 113, 114, 115, 116, 117, 110, 0]⟩ ?_
    rintro ⟨k, b, b_A, b_c, b_m⟩ ⟨hk, hb, h_b⟩
    replace hk : k ≤ d0.2.2.2.2.2.2.length := hk
    replace hb : b = heldB d0.2.2.2.2.2.1 (d0.2.2.2.2.2.2.take k) d1 := hb
    replace h_b : OwnL .byte b_m mnil (.slice b_A b.length b_c) b := h_b
    show VC _ _ _ _ _ [(5, Value.slice b_A (b.length) (b_c)), (20, Value.int .i64 (((k : Nat) : Int))), (0, Value.pointer (some ⟨g0, 0, none⟩)), (1, Value.int .i64 (d1)), (4, Value.slice none (0) (0)), (18, Value.slice q12_A9 (d0.2.2.2.2.2.2.length) (q12_c9)), (19, Value.int .i64 (((d0.2.2.2.2.2.2.length : Nat) : Int)))] [(118, mone g0 (.cells [Value.bool d0.1, Value.bool d0.2.1, Value.bool d0.2.2.1, Value.int .i64 (d0.2.2.2.1), Value.int .i64 (d0.2.2.2.2.1), Value.slice q12_A5 (d0.2.2.2.2.2.1.1.length) (q12_c5), Value.slice q12_A6 (d0.2.2.2.2.2.1.2.1.length) (q12_c6), Value.slice q12_A7 (d0.2.2.2.2.2.1.2.2.1.length) (q12_c7), Value.slice q12_A8 (d0.2.2.2.2.2.1.2.2.2.length) (q12_c8), Value.slice q12_A9 (d0.2.2.2.2.2.2.length) (q12_c9)].toArray q12_E (0, 0))), (113, q12_n5), (114, q12_n6), (115, q12_n7), (116, q12_n8), (117, q12_n9), (110, b_m), (0, mout (wm W) (m0))]
    have l_b : b.length ≤ b_c := by obtain ⟨_, _, he, hl, _⟩ := h_b.slice; simp only [Value.slice.injEq] at he; omega
    have k_b : b_c ≤ 9223372036854775807 := by obtain ⟨_, _, he, _, hl⟩ := h_b.slice; simp only [Value.slice.injEq, maxLen] at he hl; omega
    refine VC.rs ?_
    refine VO.y rfl (.lss rfl rfl) ?_
    refine VO.k8 0 1 4 5 18 19 20 21 ?_
    refine VC.seq ?_
    refine VC.cond rfl (fun hc19 => ?_) (fun hc19 => ?_)
    · -- 0T
      refine VC.skip ?_
      refine outN ?_
      refine VC.seq ?_
      refine VC.block ?_
      refine VC.rs ?_
      obtain ⟨x20, hx20⟩ : ∃ z_, (d0.2.2.2.2.2.2)[k]? = some z_ := ⟨_, List.getElem?_eq_getElem bd⟩
      obtain ⟨gg20, oo20, ec20, ea20, hce20, hre20⟩ := (Ow.rd q12_9 (mle_refl _)).elem hx20
      cases ea20
      obtain ⟨q20_A2, q20_c2, rfl, q20_0, q20_1, q20_2, q20_3⟩ := open_diskstep (x0 := x20.1) (x1 := x20.2.1) (x2 := x20.2.2.1) (x3 := x20.2.2.2) hre20
      simp only [inK] at q20_0
      simp only [inK] at q20_1
      have q20_r2 := Rd.room q20_2
      simp only [inK] at q20_3
      refine VO.y rfl (.ixI k rfl rfl tsl63 rfl bd) ?_
      refine VO.y rfl (.ldA 117 rfl tk98 rfl hce20) ?_
      refine VO.alloc 122 rfl tz98 (fun g21 => ?_)
      refine VO.store (k := 4) (c' := [Value.int .i64 (x20.1), Value.int .i64 (x20.2.1), Value.slice q20_A2 (x20.2.2.1.length) (q20_c2), Value.int .i64 (x20.2.2.2)]) 122 rfl rfl (.inl tk98) rfl rfl rfl rfl rfl ?_
      refine VO.k9 0 1 4 5 7 18 19 20 21 ?_
      refine VC.rs ?_
      refine VO.y rfl (.fa rfl tst98 rfl) ?_
      refine VO.y rfl (.ld1 122 rfl tk3 rfl (cellsAt_one rfl rfl)) ?_
      refine VO.mv ?_
      refine VO.y rfl (.eql rfl rfl) ?_
      refine VO.kp [122, 118, 113, 114, 115, 116, 117, 110, 0] [(122, mone g21 (.cells [Value.int .i64 (x20.1), Value.int .i64 (x20.2.1), Value.slice q20_A2 (x20.2.2.1.length) (q20_c2), Value.int .i64 (x20.2.2.2)].toArray 98 (0, 0))), (118, mone g0 (.cells [Value.bool d0.1, Value.bool d0.2.1, Value.bool d0.2.2.1, Value.int .i64 (d0.2.2.2.1), Value.int .i64 (d0.2.2.2.2.1), Value.slice q12_A5 (d0.2.2.2.2.2.1.1.length) (q12_c5), Value.slice q12_A6 (d0.2.2.2.2.2.1.2.1.length) (q12_c6), Value.slice q12_A7 (d0.2.2.2.2.2.1.2.2.1.length) (q12_c7), Value.slice q12_A8 (d0.2.2.2.2.2.1.2.2.2.length) (q12_c8), Value.slice (some ⟨gg20, oo20, none⟩) (d0.2.2.2.2.2.2.length) (q12_c9)].toArray q12_E (0, 0))), (113, q12_n5), (114, q12_n6), (115, q12_n7), (116, q12_n8), (117, q12_n9), (110, b_m), (0, mout (wm W) (m0))] ?_
      refine VO.k10 0 1 4 5 7 18 19 20 21 27 ?_
      refine VC.cond rfl (fun hc23 => ?_) (fun hc23 => ?_)
      · -- 0TT
        refine VC.reg ?_
        refine VO.mv ?_
        refine VO.y rfl (.ldA 122 rfl tk98 rfl (cellsAt_one rfl rfl)) ?_
        refine VO.call 110 rfl fnOk63 rfl rfl (fun W hW => dDone_ok W (hW.at (i := 110) rfl) (OwnL.ow h_b rfl) (Rd.mono hre20 (hW.out (i := 110) (j := 117) rfl rfl)) (by exact held_cut hg hb ‹d0.2.2.2.2.2.2[k]? = some _› e2 ‹_ = d1›) (by (have h_ := held_room hb ‹d0.2.2.2.2.2.2[k]? = some _›; simp only [sizeQ] at h_; omega))) (fun v24 m24 hv24 => ?_)
        obtain ⟨s24_0, rfl, f24_0⟩ := hv24
        obtain ⟨A24_0, c24_0, eq24_0, l24_0, k24_0⟩ := f24_0.slice
        subst eq24_0
        simp only [maxLen] at k24_0
        refine VO.as ?_
        refine VO.k10 0 1 4 5 7 18 19 20 21 27 ?_
        refine outBN ?_
        refine outN ?_
        refine VC.reg ?_
        refine VO.y rfl (.add (c := ((k + 1 : Nat) : Int)) rfl rfl (by omega) ⟨bd, bd⟩) ?_
        refine VO.mv ?_
        refine VO.k10 0 1 4 5 7 18 19 20 21 27 ?_
        exact outN ⟨⟨k + 1, doneB b x20, A24_0, c24_0, m24⟩, ⟨by omega, by first | exact held_yes hb ‹d0.2.2.2.2.2.2[k]? = some _› ‹_ = d1› | exact held_no hb ‹d0.2.2.2.2.2.2[k]? = some _› ‹¬ _ = d1›, (Ow.ownl f24_0 rfl mnil)⟩, bd, ⟨⟨rfl, rfl, rfl, rfl, rfl, rfl, rfl, trivial⟩, fun _ h => Inv.sub h [118, 113, 114, 115, 116, 117, 110, 0]⟩⟩
      · -- 0TF
        refine VC.skip ?_
        refine outBN ?_
        refine outN ?_
        refine VC.reg ?_
        refine VO.y rfl (.add (c := ((k + 1 : Nat) : Int)) rfl rfl (by omega) ⟨bd, bd⟩) ?_
        refine VO.mv ?_
        refine VO.k10 0 1 4 5 7 18 19 20 21 27 ?_
        exact outN ⟨⟨k + 1, b, b_A, b_c, b_m⟩, ⟨by omega, by first | exact held_yes hb ‹d0.2.2.2.2.2.2[k]? = some _› ‹_ = d1› | exact held_no hb ‹d0.2.2.2.2.2.2[k]? = some _› ‹¬ _ = d1›, h_b⟩, bd, ⟨⟨rfl, rfl, rfl, rfl, rfl, rfl, rfl, trivial⟩, fun _ h => Inv.sub h [118, 113, 114, 115, 116, 117, 110, 0]⟩⟩
    · -- 0F
      refine VC.exit ?_
      refine outE ?_
      refine outE ?_
      refine outBB ?_
      refine outN ?_
      refine VC.rs ?_
      refine VO.mv ?_
      refine VO.as ?_
      refine VO.k8 0 1 4 5 18 19 20 21 ?_
      refine VC.ret ?_
      refine ⟨_, _, res_run (rs := [.tmp 4]) rfl (.tmp rfl .nil), fun W_ hI => out_of (l := [b_m, mone g0 (.cells [Value.bool d0.1, Value.bool d0.2.1, Value.bool d0.2.2.1, Value.int .i64 (d0.2.2.2.1), Value.int .i64 (d0.2.2.2.2.1), Value.slice q12_A5 (d0.2.2.2.2.2.1.1.length) (q12_c5), Value.slice q12_A6 (d0.2.2.2.2.2.1.2.1.length) (q12_c6), Value.slice q12_A7 (d0.2.2.2.2.2.1.2.2.1.length) (q12_c7), Value.slice q12_A8 (d0.2.2.2.2.2.1.2.2.2.length) (q12_c8), Value.slice q12_A9 (d0.2.2.2.2.2.2.length) (q12_c9)].toArray q12_E (0, 0)), q12_n5, q12_n6, q12_n7, q12_n8, q12_n9]) hI [110, 118, 113, 114, 115, 116, 117] rfl rfl (mle_refl _) (fun hS_ => ?_)⟩
      dsimp only [packV]
      have he0 : (heldB d0.2.2.2.2.2.1 d0.2.2.2.2.2.2 d1 : Ty.Den (.sl .byte)) = b := by first | rfl | (rw [hb, List.take_of_length_le (by omega)])
      have hm0_ : (d0 : DdiskDisk) = d0 := by first | rfl | (rw [hb, List.take_of_length_le (by omega)])
      refine ⟨Value.slice b_A (b.length) (b_c), muns [b_m], muns [mone g0 (.cells [Value.bool d0.1, Value.bool d0.2.1, Value.bool d0.2.2.1, Value.int .i64 (d0.2.2.2.1), Value.int .i64 (d0.2.2.2.2.1), Value.slice q12_A5 (d0.2.2.2.2.2.1.1.length) (q12_c5), Value.slice q12_A6 (d0.2.2.2.2.2.1.2.1.length) (q12_c6), Value.slice q12_A7 (d0.2.2.2.2.2.1.2.2.1.length) (q12_c7), Value.slice q12_A8 (d0.2.2.2.2.2.1.2.2.2.length) (q12_c8), Value.slice q12_A9 (d0.2.2.2.2.2.2.length) (q12_c9)].toArray q12_E (0, 0)), q12_n5, q12_n6, q12_n7, q12_n8, q12_n9], ?_, ?_, ?_, ?_⟩
      rotate_left
      · exact Seps.grp (ls := [[b_m], [mone g0 (.cells [Value.bool d0.1, Value.bool d0.2.1, Value.bool d0.2.2.1, Value.int .i64 (d0.2.2.2.1), Value.int .i64 (d0.2.2.2.2.1), Value.slice q12_A5 (d0.2.2.2.2.2.1.1.length) (q12_c5), Value.slice q12_A6 (d0.2.2.2.2.2.1.2.1.length) (q12_c6), Value.slice q12_A7 (d0.2.2.2.2.2.1.2.2.1.length) (q12_c7), Value.slice q12_A8 (d0.2.2.2.2.2.1.2.2.2.length) (q12_c8), Value.slice q12_A9 (d0.2.2.2.2.2.2.length) (q12_c9)].toArray q12_E (0, 0)), q12_n5, q12_n6, q12_n7, q12_n8, q12_n9]]) hS_
      · rw [he0]; exact (Ow.up (OwnL.ow h_b rfl) ((Seps.self hS_ (List.Sublist.cons_cons _ (List.Sublist.cons _ (List.Sublist.cons _ (List.Sublist.cons _ (List.Sublist.cons _ (List.Sublist.cons _ (List.Sublist.cons _ List.Sublist.slnil)))))))).1 _ (.head _)))
      · rw [hm0_]; exact (show Ow (.ptr TdiskDisk) _ _ (_, d0) from (mkP_diskDisk d0.1 d0.2.1 d0.2.2.1 d0.2.2.2.1 d0.2.2.2.2.1 d0.2.2.2.2.2.1.1 d0.2.2.2.2.2.1.2.1 d0.2.2.2.2.2.1.2.2.1 d0.2.2.2.2.2.1.2.2.2 d0.2.2.2.2.2.2 (Seps.self hS_ (List.Sublist.cons _ (List.Sublist.cons_cons _ (List.Sublist.cons_cons _ (List.Sublist.cons_cons _ (List.Sublist.cons_cons _ (List.Sublist.cons_cons _ (List.Sublist.cons_cons _ List.Sublist.slnil)))))))) bdk bdk (OwnL.ow (Ow.ownl q12_5 rfl mnil) rfl) (OwnL.ow (Ow.ownl q12_6 rfl mnil) rfl) (OwnL.ow (Ow.ownl q12_7 rfl mnil) rfl) (OwnL.ow (Ow.ownl q12_8 rfl mnil) rfl) q12_9))
      all_goals (first | rfl | (simp [*]; done))
  · -- 1
    refine VO.y rfl (.ixa (i := 1) (o := 6) rfl rfl tar62 hi1 rfl rfl) ?_
    obtain ⟨q25_E, q25_A5, q25_c5, q25_A6, q25_c6, q25_A7, q25_c7, q25_A8, q25_c8, q25_A9, q25_c9, q25_n5, q25_n6, q25_n7, q25_n8, q25_n9, _, q25_S, q25_3, q25_4, q25_5, q25_6, q25_7, q25_8, q25_9⟩ := openP_diskDisk (x0 := d0.1) (x1 := d0.2.1) (x2 := d0.2.2.1) (x3 := d0.2.2.2.1) (x4 := d0.2.2.2.2.1) (x5 := d0.2.2.2.2.2.1.1) (x6 := d0.2.2.2.2.2.1.2.1) (x7 := d0.2.2.2.2.2.1.2.2.1) (x8 := d0.2.2.2.2.2.1.2.2.2) (x9 := d0.2.2.2.2.2.2) h0
    simp only [inK] at q25_3
    simp only [inK] at q25_4
    have q25_r5 := q25_5.rm
    have q25_r6 := q25_6.rm
    have q25_r7 := q25_7.rm
    have q25_r8 := q25_8.rm
    have q25_r9 := q25_9.rm
    refine VO.inv _ (fun _ h => h.parts (i := 1) rfl q25_S [131, 126, 127, 128, 129, 130]) ?_
    refine VO.y rfl (.ld1 131 rfl tk22 rfl (cellsAt_one rfl rfl)) ?_
    refine VO.inv _ (fun _ h => h.nilc 133) ?_
    obtain ⟨mo32, cs32, hM32, hA32, hC32⟩ := (OwnL.nil .byte mnil mnil)
    obtain ⟨all32, hS32, hR32⟩ := Rd.srcI (P := Try.prog) ((OwnL.rd (Ow.ownl q25_6 rfl mnil) (mle_refl _) (mle_nil _))) Try.underlying22
    refine VO.app 133 rfl rfl rfl tsl22 tz5 rfl rfl hM32 hA32 (hS32 _ 127 rfl) hR32.nice bdm bd (by decide) (fun v32 m32 hN32 => ?_)
    have ho32 : OwnL .byte m32 mnil v32 (d0.2.2.2.2.2.1.2.1) := OwnL.more hC32 hN32 (All2c.mono hR32 fun _ _ h => Rd.flat rfl h _)
    obtain ⟨A32, c32, rfl, l32, k32⟩ := ho32.slice
    simp only [maxLen] at k32
    refine VO.as ?_
    refine VO.clsP 134 [131, 126, 127, 128, 129, 130] rfl (fun hg34 => (show Ow (.ptr TdiskDisk) _ _ (_, d0) from (mkP_diskDisk d0.1 d0.2.1 d0.2.2.1 d0.2.2.2.1 d0.2.2.2.2.1 d0.2.2.2.2.2.1.1 d0.2.2.2.2.2.1.2.1 d0.2.2.2.2.2.1.2.2.1 d0.2.2.2.2.2.1.2.2.2 d0.2.2.2.2.2.2 hg34 bdk bdk (OwnL.ow (Ow.ownl q25_5 rfl mnil) rfl) (OwnL.ow (Ow.ownl q25_6 rfl mnil) rfl) (OwnL.ow (Ow.ownl q25_7 rfl mnil) rfl) (OwnL.ow (Ow.ownl q25_8 rfl mnil) rfl) q25_9))) (fun mc34 ho34 => ?_)
    refine VO.k4 0 1 4 5 ?_
    refine VC.seq ?_
    refine VC.rs ?_
    refine VO.mv ?_
    refine VO.y rfl (.nilp rfl) ?_
    refine VO.y rfl (.fa rfl tst65 rfl) ?_
    obtain ⟨q35_E, q35_A5, q35_c5, q35_A6, q35_c6, q35_A7, q35_c7, q35_A8, q35_c8, q35_A9, q35_c9, q35_n5, q35_n6, q35_n7, q35_n8, q35_n9, _, q35_S, q35_3, q35_4, q35_5, q35_6, q35_7, q35_8, q35_9⟩ := openP_diskDisk (x0 := d0.1) (x1 := d0.2.1) (x2 := d0.2.2.1) (x3 := d0.2.2.2.1) (x4 := d0.2.2.2.2.1) (x5 := d0.2.2.2.2.2.1.1) (x6 := d0.2.2.2.2.2.1.2.1) (x7 := d0.2.2.2.2.2.1.2.2.1) (x8 := d0.2.2.2.2.2.1.2.2.2) (x9 := d0.2.2.2.2.2.2) ho34
    simp only [inK] at q35_3
    simp only [inK] at q35_4
    have q35_r5 := q35_5.rm
    have q35_r6 := q35_6.rm
    have q35_r7 := q35_7.rm
    have q35_r8 := q35_8.rm
    have q35_r9 := q35_9.rm
    refine VO.inv _ (fun _ h => h.parts (i := 134) rfl q35_S [141, 136, 137, 138, 139, 140]) ?_
    refine VO.y rfl (.ld1 141 rfl tk63 rfl (cellsAt_one rfl rfl)) ?_
    refine VO.y rfl (.lenS rfl tsl63) ?_
    refine VO.mv ?_
    refine VO.kp [141, 136, 137, 138, 139, 140, 133, 0] [(141, mone g0 (.cells [Value.bool d0.1, Value.bool d0.2.1, Value.bool d0.2.2.1, Value.int .i64 (d0.2.2.2.1), Value.int .i64 (d0.2.2.2.2.1), Value.slice q35_A5 (d0.2.2.2.2.2.1.1.length) (q35_c5), Value.slice q35_A6 (d0.2.2.2.2.2.1.2.1.length) (q35_c6), Value.slice q35_A7 (d0.2.2.2.2.2.1.2.2.1.length) (q35_c7), Value.slice q35_A8 (d0.2.2.2.2.2.1.2.2.2.length) (q35_c8), Value.slice q35_A9 (d0.2.2.2.2.2.2.length) (q35_c9)].toArray q35_E (0, 0))), (136, q35_n5), (137, q35_n6), (138, q35_n7), (139, q35_n8), (140, q35_n9), (133, m32), (0, mout (wm W) (m0))] ?_
    refine VO.k7 0 1 4 5 18 19 20 ?_
    refine VC.block ?_
    refine VC.loop (G := Nat × (List UInt8) × (Option Addr) × Nat × Mem) (fun g => [(5, Value.slice (g.2.2.1) ((g.2.1).length) ((g.2.2.2.1))), (20, Value.int .i64 ((((g.1) : Nat) : Int))), (0, Value.pointer (some ⟨g0, 0, none⟩)), (1, Value.int .i64 (d1)), (4, Value.slice none (0) (0)), (18, Value.slice q35_A9 (d0.2.2.2.2.2.2.length) (q35_c9)), (19, Value.int .i64 (((d0.2.2.2.2.2.2.length : Nat) : Int)))]) (fun g => [(141, mone g0 (.cells [Value.bool d0.1, Value.bool d0.2.1, Value.bool d0.2.2.1, Value.int .i64 (d0.2.2.2.1), Value.int .i64 (d0.2.2.2.2.1), Value.slice q35_A5 (d0.2.2.2.2.2.1.1.length) (q35_c5), Value.slice q35_A6 (d0.2.2.2.2.2.1.2.1.length) (q35_c6), Value.slice q35_A7 (d0.2.2.2.2.2.1.2.2.1.length) (q35_c7), Value.slice q35_A8 (d0.2.2.2.2.2.1.2.2.2.length) (q35_c8), Value.slice q35_A9 (d0.2.2.2.2.2.2.length) (q35_c9)].toArray q35_E (0, 0))), (136, q35_n5), (137, q35_n6), (138, q35_n7), (139, q35_n8), (140, q35_n9), (133, (g.2.2.2.2)), (0, mout (wm W) (m0))]) (fun g => ((g.1) ≤ d0.2.2.2.2.2.2.length) ∧ ((g.2.1) = heldB d0.2.2.2.2.2.1 (d0.2.2.2.2.2.2.take (g.1)) d1) ∧ (OwnL .byte (g.2.2.2.2) mnil (.slice (g.2.2.1) (g.2.1).length (g.2.2.2.1)) (g.2.1))) (fun g => d0.2.2.2.2.2.2.length - (g.1)) (0, d0.2.2.2.2.2.1.2.1, A32, c32, m32) (⟨by omega, by first | exact (getF0 ‹d1 = (0 : Int)›).symm | exact (getF1 ‹d1 = (1 : Int)›).symm | exact (getF2 ‹d1 = (2 : Int)›).symm | exact (getF3 ‹d1 = (3 : Int)›).symm, ho32⟩) ⟨⟨rfl, rfl, rfl, rfl, rfl, rfl, rfl, trivial⟩, fun _ h => h.sub [141, 136, 137, 138, 139, 140, 133, 0]⟩ ?_
    rintro ⟨k, b, b_A, b_c, b_m⟩ ⟨hk, hb, h_b⟩
    replace hk : k ≤ d0.2.2.2.2.2.2.length := hk
    replace hb : b = heldB d0.2.2.2.2.2.1 (d0.2.2.2.2.2.2.take k) d1 := hb
    replace h_b : OwnL .byte b_m mnil (.slice b_A b.length b_c) b := h_b
    show VC _ _ _ _ _ [(5, Value.slice b_A (b.length) (b_c)), (20, Value.int .i64 (((k : Nat) : Int))), (0, Value.pointer (some ⟨g0, 0, none⟩)), (1, Value.int .i64 (d1)), (4, Value.slice none (0) (0)), (18, Value.slice q35_A9 (d0.2.2.2.2.2.2.length) (q35_c9)), (19, Value.int .i64 (((d0.2.2.2.2.2.2.length : Nat) : Int)))] [(141, mone g0 (.cells [Value.bool d0.1, Value.bool d0.2.1, Value.bool d0.2.2.1, Value.int .i64 (d0.2.2.2.1), Value.int .i64 (d0.2.2.2.2.1), Value.slice q35_A5 (d0.2.2.2.2.2.1.1.length) (q35_c5), Value.slice q35_A6 (d0.2.2.2.2.2.1.2.1.length) (q35_c6), Value.slice q35_A7 (d0.2.2.2.2.2.1.2.2.1.length) (q35_c7), Value.slice q35_A8 (d0.2.2.2.2.2.1.2.2.2.length) (q35_c8), Value.slice q35_A9 (d0.2.2.2.2.2.2.length) (q35_c9)].toArray q35_E (0, 0))), (136, q35_n5), (137, q35_n6), (138, q35_n7), (139, q35_n8), (140, q35_n9), (133, b_m), (0, mout (wm W) (m0))]
    have l_b : b.length ≤ b_c := by obtain ⟨_, _, he, hl, _⟩ := h_b.slice; simp only [Value.slice.injEq] at he; omega
    have k_b : b_c ≤ 9223372036854775807 := by obtain ⟨_, _, he, _, hl⟩ := h_b.slice; simp only [Value.slice.injEq, maxLen] at he hl; omega
    refine VC.rs ?_
    refine VO.y rfl (.lss rfl rfl) ?_
    refine VO.k8 0 1 4 5 18 19 20 21 ?_
    refine VC.seq ?_
    refine VC.cond rfl (fun hc42 => ?_) (fun hc42 => ?_)
    · -- 1T
      refine VC.skip ?_
      refine outN ?_
      refine VC.seq ?_
      refine VC.block ?_
      refine VC.rs ?_
      obtain ⟨x43, hx43⟩ : ∃ z_, (d0.2.2.2.2.2.2)[k]? = some z_ := ⟨_, List.getElem?_eq_getElem bd⟩
      obtain ⟨gg43, oo43, ec43, ea43, hce43, hre43⟩ := (Ow.rd q35_9 (mle_refl _)).elem hx43
      cases ea43
      obtain ⟨q43_A2, q43_c2, rfl, q43_0, q43_1, q43_2, q43_3⟩ := open_diskstep (x0 := x43.1) (x1 := x43.2.1) (x2 := x43.2.2.1) (x3 := x43.2.2.2) hre43
      simp only [inK] at q43_0
      simp only [inK] at q43_1
      have q43_r2 := Rd.room q43_2
      simp only [inK] at q43_3
      refine VO.y rfl (.ixI k rfl rfl tsl63 rfl bd) ?_
      refine VO.y rfl (.ldA 140 rfl tk98 rfl hce43) ?_
      refine VO.alloc 145 rfl tz98 (fun g44 => ?_)
      refine VO.store (k := 4) (c' := [Value.int .i64 (x43.1), Value.int .i64 (x43.2.1), Value.slice q43_A2 (x43.2.2.1.length) (q43_c2), Value.int .i64 (x43.2.2.2)]) 145 rfl rfl (.inl tk98) rfl rfl rfl rfl rfl ?_
      refine VO.k9 0 1 4 5 7 18 19 20 21 ?_
      refine VC.rs ?_
      refine VO.y rfl (.fa rfl tst98 rfl) ?_
      refine VO.y rfl (.ld1 145 rfl tk3 rfl (cellsAt_one rfl rfl)) ?_
      refine VO.mv ?_
      refine VO.y rfl (.eql rfl rfl) ?_
      refine VO.kp [145, 141, 136, 137, 138, 139, 140, 133, 0] [(145, mone g44 (.cells [Value.int .i64 (x43.1), Value.int .i64 (x43.2.1), Value.slice q43_A2 (x43.2.2.1.length) (q43_c2), Value.int .i64 (x43.2.2.2)].toArray 98 (0, 0))), (141, mone g0 (.cells [Value.bool d0.1, Value.bool d0.2.1, Value.bool d0.2.2.1, Value.int .i64 (d0.2.2.2.1), Value.int .i64 (d0.2.2.2.2.1), Value.slice q35_A5 (d0.2.2.2.2.2.1.1.length) (q35_c5), Value.slice q35_A6 (d0.2.2.2.2.2.1.2.1.length) (q35_c6), Value.slice q35_A7 (d0.2.2.2.2.2.1.2.2.1.length) (q35_c7), Value.slice q35_A8 (d0.2.2.2.2.2.1.2.2.2.length) (q35_c8), Value.slice (some ⟨gg43, oo43, none⟩) (d0.2.2.2.2.2.2.length) (q35_c9)].toArray q35_E (0, 0))), (136, q35_n5), (137, q35_n6), (138, q35_n7), (139, q35_n8), (140, q35_n9), (133, b_m), (0, mout (wm W) (m0))] ?_
      refine VO.k10 0 1 4 5 7 18 19 20 21 27 ?_
      refine VC.cond rfl (fun hc46 => ?_) (fun hc46 => ?_)
      · -- 1TT
        refine VC.reg ?_
        refine VO.mv ?_
        refine VO.y rfl (.ldA 145 rfl tk98 rfl (cellsAt_one rfl rfl)) ?_
        refine VO.call 133 rfl fnOk63 rfl rfl (fun W hW => dDone_ok W (hW.at (i := 133) rfl) (OwnL.ow h_b rfl) (Rd.mono hre43 (hW.out (i := 133) (j := 140) rfl rfl)) (by exact held_cut hg hb ‹d0.2.2.2.2.2.2[k]? = some _› e2 ‹_ = d1›) (by (have h_ := held_room hb ‹d0.2.2.2.2.2.2[k]? = some _›; simp only [sizeQ] at h_; omega))) (fun v47 m47 hv47 => ?_)
        obtain ⟨s47_0, rfl, f47_0⟩ := hv47
        obtain ⟨A47_0, c47_0, eq47_0, l47_0, k47_0⟩ := f47_0.slice
        subst eq47_0
        simp only [maxLen] at k47_0
        refine VO.as ?_
        refine VO.k10 0 1 4 5 7 18 19 20 21 27 ?_
        refine outBN ?_
        refine outN ?_
        refine VC.reg ?_
        refine VO.y rfl (.add (c := ((k + 1 : Nat) : Int)) rfl rfl (by omega) ⟨bd, bd⟩) ?_
        refine VO.mv ?_
        refine VO.k10 0 1 4 5 7 18 19 20 21 27 ?_
        exact outN ⟨⟨k + 1, doneB b x43, A47_0, c47_0, m47⟩, ⟨by omega, by first | exact held_yes hb ‹d0.2.2.2.2.2.2[k]? = some _› ‹_ = d1› | exact held_no hb ‹d0.2.2.2.2.2.2[k]? = some _› ‹¬ _ = d1›, (Ow.ownl f47_0 rfl mnil)⟩, bd, ⟨⟨rfl, rfl, rfl, rfl, rfl, rfl, rfl, trivial⟩, fun _ h => Inv.sub h [141, 136, 137, 138, 139, 140, 133, 0]⟩⟩
      · -- 1TF
        refine VC.skip ?_
        refine outBN ?_
        refine outN ?_
        refine VC.reg ?_
        refine VO.y rfl (.add (c := ((k + 1 : Nat) : Int)) rfl rfl (by omega) ⟨bd, bd⟩) ?_
        refine VO.mv ?_
        refine VO.k10 0 1 4 5 7 18 19 20 21 27 ?_
        exact outN ⟨⟨k + 1, b, b_A, b_c, b_m⟩, ⟨by omega, by first | exact held_yes hb ‹d0.2.2.2.2.2.2[k]? = some _› ‹_ = d1› | exact held_no hb ‹d0.2.2.2.2.2.2[k]? = some _› ‹¬ _ = d1›, h_b⟩, bd, ⟨⟨rfl, rfl, rfl, rfl, rfl, rfl, rfl, trivial⟩, fun _ h => Inv.sub h [141, 136, 137, 138, 139, 140, 133, 0]⟩⟩
    · -- 1F
      refine VC.exit ?_
      refine outE ?_
      refine outE ?_
      refine outBB ?_
      refine outN ?_
      refine VC.rs ?_
      refine VO.mv ?_
      refine VO.as ?_
      refine VO.k8 0 1 4 5 18 19 20 21 ?_
      refine VC.ret ?_
      refine ⟨_, _, res_run (rs := [.tmp 4]) rfl (.tmp rfl .nil), fun W_ hI => out_of (l := [b_m, mone g0 (.cells [Value.bool d0.1, Value.bool d0.2.1, Value.bool d0.2.2.1, Value.int .i64 (d0.2.2.2.1), Value.int .i64 (d0.2.2.2.2.1), Value.slice q35_A5 (d0.2.2.2.2.2.1.1.length) (q35_c5), Value.slice q35_A6 (d0.2.2.2.2.2.1.2.1.length) (q35_c6), Value.slice q35_A7 (d0.2.2.2.2.2.1.2.2.1.length) (q35_c7), Value.slice q35_A8 (d0.2.2.2.2.2.1.2.2.2.length) (q35_c8), Value.slice q35_A9 (d0.2.2.2.2.2.2.length) (q35_c9)].toArray q35_E (0, 0)), q35_n5, q35_n6, q35_n7, q35_n8, q35_n9]) hI [133, 141, 136, 137, 138, 139, 140] rfl rfl (mle_refl _) (fun hS_ => ?_)⟩
      dsimp only [packV]
      have he0 : (heldB d0.2.2.2.2.2.1 d0.2.2.2.2.2.2 d1 : Ty.Den (.sl .byte)) = b := by first | rfl | (rw [hb, List.take_of_length_le (by omega)])
      have hm0_ : (d0 : DdiskDisk) = d0 := by first | rfl | (rw [hb, List.take_of_length_le (by omega)])
      refine ⟨Value.slice b_A (b.length) (b_c), muns [b_m], muns [mone g0 (.cells [Value.bool d0.1, Value.bool d0.2.1, Value.bool d0.2.2.1, Value.int .i64 (d0.2.2.2.1), Value.int .i64 (d0.2.2.2.2.1), Value.slice q35_A5 (d0.2.2.2.2.2.1.1.length) (q35_c5), Value.slice q35_A6 (d0.2.2.2.2.2.1.2.1.length) (q35_c6), Value.slice q35_A7 (d0.2.2.2.2.2.1.2.2.1.length) (q35_c7), Value.slice q35_A8 (d0.2.2.2.2.2.1.2.2.2.length) (q35_c8), Value.slice q35_A9 (d0.2.2.2.2.2.2.length) (q35_c9)].toArray q35_E (0, 0)), q35_n5, q35_n6, q35_n7, q35_n8, q35_n9], ?_, ?_, ?_, ?_⟩
      rotate_left
      · exact Seps.grp (ls := [[b_m], [mone g0 (.cells [Value.bool d0.1, Value.bool d0.2.1, Value.bool d0.2.2.1, Value.int .i64 (d0.2.2.2.1), Value.int .i64 (d0.2.2.2.2.1), Value.slice q35_A5 (d0.2.2.2.2.2.1.1.length) (q35_c5), Value.slice q35_A6 (d0.2.2.2.2.2.1.2.1.length) (q35_c6), Value.slice q35_A7 (d0.2.2.2.2.2.1.2.2.1.length) (q35_c7), Value.slice q35_A8 (d0.2.2.2.2.2.1.2.2.2.length) (q35_c8), Value.slice q35_A9 (d0.2.2.2.2.2.2.length) (q35_c9)].toArray q35_E (0, 0)), q35_n5, q35_n6, q35_n7, q35_n8, q35_n9]]) hS_
      · rw [he0]; exact (Ow.up (OwnL.ow h_b rfl) ((Seps.self hS_ (List.Sublist.cons_cons _ (List.Sublist.cons _ (List.Sublist.cons _ (List.Sublist.cons _ (List.Sublist.cons _ (List.Sublist.cons _ (List.Sublist.cons _ List.Sublist.slnil)))))))).1 _ (.head _)))
      · rw [hm0_]; exact (show Ow (.ptr TdiskDisk) _ _ (_, d0) from (mkP_diskDisk d0.1 d0.2.1 d0.2.2.1 d0.2.2.2.1 d0.2.2.2.2.1 d0.2.2.2.2.2.1.1 d0.2.2.2.2.2.1.2.1 d0.2.2.2.2.2.1.2.2.1 d0.2.2.2.2.2.1.2.2.2 d0.2.2.2.2.2.2 (Seps.self hS_ (List.Sublist.cons _ (List.Sublist.cons_cons _ (List.Sublist.cons_cons _ (List.Sublist.cons_cons _ (List.Sublist.cons_cons _ (List.Sublist.cons_cons _ (List.Sublist.cons_cons _ List.Sublist.slnil)))))))) bdk bdk (OwnL.ow (Ow.ownl q35_5 rfl mnil) rfl) (OwnL.ow (Ow.ownl q35_6 rfl mnil) rfl) (OwnL.ow (Ow.ownl q35_7 rfl mnil) rfl) (OwnL.ow (Ow.ownl q35_8 rfl mnil) rfl) q35_9))
      all_goals (first | rfl | (simp [*]; done))
  · -- 2
    refine VO.y rfl (.ixa (i := 2) (o := 7) rfl rfl tar62 hi1 rfl rfl) ?_
    obtain ⟨q48_E, q48_A5, q48_c5, q48_A6, q48_c6, q48_A7, q48_c7, q48_A8, q48_c8, q48_A9, q48_c9, q48_n5, q48_n6, q48_n7, q48_n8, q48_n9, _, q48_S, q48_3, q48_4, q48_5, q48_6, q48_7, q48_8, q48_9⟩ := openP_diskDisk (x0 := d0.1) (x1 := d0.2.1) (x2 := d0.2.2.1) (x3 := d0.2.2.2.1) (x4 := d0.2.2.2.2.1) (x5 := d0.2.2.2.2.2.1.1) (x6 := d0.2.2.2.2.2.1.2.1) (x7 := d0.2.2.2.2.2.1.2.2.1) (x8 := d0.2.2.2.2.2.1.2.2.2) (x9 := d0.2.2.2.2.2.2) h0
    simp only [inK] at q48_3
    simp only [inK] at q48_4
    have q48_r5 := q48_5.rm
    have q48_r6 := q48_6.rm
    have q48_r7 := q48_7.rm
    have q48_r8 := q48_8.rm
    have q48_r9 := q48_9.rm
    refine VO.inv _ (fun _ h => h.parts (i := 1) rfl q48_S [154, 149, 150, 151, 152, 153]) ?_
    refine VO.y rfl (.ld1 154 rfl tk22 rfl (cellsAt_one rfl rfl)) ?_
    refine VO.inv _ (fun _ h => h.nilc 156) ?_
    obtain ⟨mo55, cs55, hM55, hA55, hC55⟩ := (OwnL.nil .byte mnil mnil)
    obtain ⟨all55, hS55, hR55⟩ := Rd.srcI (P := Try.prog) ((OwnL.rd (Ow.ownl q48_7 rfl mnil) (mle_refl _) (mle_nil _))) Try.underlying22
    refine VO.app 156 rfl rfl rfl tsl22 tz5 rfl rfl hM55 hA55 (hS55 _ 151 rfl) hR55.nice bdm bd (by decide) (fun v55 m55 hN55 => ?_)
    have ho55 : OwnL .byte m55 mnil v55 (d0.2.2.2.2.2.1.2.2.1) := OwnL.more hC55 hN55 (All2c.mono hR55 fun _ _ h => Rd.flat rfl h _)
    obtain ⟨A55, c55, rfl, l55, k55⟩ := ho55.slice
    simp only [maxLen] at k55
    refine VO.as ?_
    refine VO.clsP 157 [154, 149, 150, 151, 152, 153] rfl (fun hg57 => (show Ow (.ptr TdiskDisk) _ _ (_, d0) from (mkP_diskDisk d0.1 d0.2.1 d0.2.2.1 d0.2.2.2.1 d0.2.2.2.2.1 d0.2.2.2.2.2.1.1 d0.2.2.2.2.2.1.2.1 d0.2.2.2.2.2.1.2.2.1 d0.2.2.2.2.2.1.2.2.2 d0.2.2.2.2.2.2 hg57 bdk bdk (OwnL.ow (Ow.ownl q48_5 rfl mnil) rfl) (OwnL.ow (Ow.ownl q48_6 rfl mnil) rfl) (OwnL.ow (Ow.ownl q48_7 rfl mnil) rfl) (OwnL.ow (Ow.ownl q48_8 rfl mnil) rfl) q48_9))) (fun mc57 ho57 => ?_)
    refine VO.k4 0 1 4 5 ?_
    refine VC.seq ?_
    refine VC.rs ?_
    refine VO.mv ?_
    refine VO.y rfl (.nilp rfl) ?_
    refine VO.y rfl (.fa rfl tst65 rfl) ?_
    obtain ⟨q58_E, q58_A5, q58_c5, q58_A6, q58_c6, q58_A7, q58_c7, q58_A8, q58_c8, q58_A9, q58_c9, q58_n5, q58_n6, q58_n7, q58_n8, q58_n9, _, q58_S, q58_3, q58_4, q58_5, q58_6, q58_7, q58_8, q58_9⟩ := openP_diskDisk (x0 := d0.1) (x1 := d0.2.1) (x2 := d0.2.2.1) (x3 := d0.2.2.2.1) (x4 := d0.2.2.2.2.1) (x5 := d0.2.2.2.2.2.1.1) (x6 := d0.2.2.2.2.2.1.2.1) (x7 := d0.2.2.2.2.2.1.2.2.1) (x8 := d0.2.2.2.2.2.1.2.2.2) (x9 := d0.2.2.2.2.2.2) ho57
    simp only [inK] at q58_3
    simp only [inK] at q58_4
    have q58_r5 := q58_5.rm
    have q58_r6 := q58_6.rm
    have q58_r7 := q58_7.rm
    have q58_r8 := q58_8.rm
    have q58_r9 := q58_9.rm
    refine VO.inv _ (fun _ h => h.parts (i := 157) rfl q58_S [164, 159, 160, 161, 162, 163]) ?_
    refine VO.y rfl (.ld1 164 rfl tk63 rfl (cellsAt_one rfl rfl)) ?_
    refine VO.y rfl (.lenS rfl tsl63) ?_
    refine VO.mv ?_
    refine VO.kp [164, 159, 160, 161, 162, 163, 156, 0] [(164, mone g0 (.cells [Value.bool d0.1, Value.bool d0.2.1, Value.bool d0.2.2.1, Value.int .i64 (d0.2.2.2.1), Value.int .i64 (d0.2.2.2.2.1), Value.slice q58_A5 (d0.2.2.2.2.2.1.1.length) (q58_c5), Value.slice q58_A6 (d0.2.2.2.2.2.1.2.1.length) (q58_c6), Value.slice q58_A7 (d0.2.2.2.2.2.1.2.2.1.length) (q58_c7), Value.slice q58_A8 (d0.2.2.2.2.2.1.2.2.2.length) (q58_c8), Value.slice q58_A9 (d0.2.2.2.2.2.2.length) (q58_c9)].toArray q58_E (0, 0))), (159, q58_n5), (160, q58_n6), (161, q58_n7), (162, q58_n8), (163, q58_n9), (156, m55), (0, mout (wm W) (m0))] ?_
    refine VO.k7 0 1 4 5 18 19 20 ?_
    refine VC.block ?_
    refine VC.loop (G := Nat × (List UInt8) × (Option Addr) × Nat × Mem) (fun g => [(5, Value.slice (g.2.2.1) ((g.2.1).length) ((g.2.2.2.1))), (20, Value.int .i64 ((((g.1) : Nat) : Int))), (0, Value.pointer (some ⟨g0, 0, none⟩)), (1, Value.int .i64 (d1)), (4, Value.slice none (0) (0)), (18, Value.slice q58_A9 (d0.2.2.2.2.2.2.length) (q58_c9)), (19, Value.int .i64 (((d0.2.2.2.2.2.2.length : Nat) : Int)))]) (fun g => [(164, mone g0 (.cells [Value.bool d0.1, Value.bool d0.2.1, Value.bool d0.2.2.1, Value.int .i64 (d0.2.2.2.1), Value.int .i64 (d0.2.2.2.2.1), Value.slice q58_A5 (d0.2.2.2.2.2.1.1.length) (q58_c5), Value.slice q58_A6 (d0.2.2.2.2.2.1.2.1.length) (q58_c6), Value.slice q58_A7 (d0.2.2.2.2.2.1.2.2.1.length) (q58_c7), Value.slice q58_A8 (d0.2.2.2.2.2.1.2.2.2.length) (q58_c8), Value.slice q58_A9 (d0.2.2.2.2.2.2.length) (q58_c9)].toArray q58_E (0, 0))), (159, q58_n5), (160, q58_n6), (161, q58_n7), (162, q58_n8), (163, q58_n9), (156, (g.2.2.2.2)), (0, mout (wm W) (m0))]) (fun g => ((g.1) ≤ d0.2.2.2.2.2.2.length) ∧ ((g.2.1) = heldB d0.2.2.2.2.2.1 (d0.2.2.2.2.2.2.take (g.1)) d1) ∧ (OwnL .byte (g.2.2.2.2) mnil (.slice (g.2.2.1) (g.2.1).length (g.2.2.2.1)) (g.2.1))) (fun g => d0.2.2.2.2.2.2.length - (g.1)) (0, d0.2.2.2.2.2.1.2.2.1, A55, c55, m55) (⟨by omega, by first | exact (getF0 ‹d1 = (0 : Int)›).symm | exact (getF1 ‹d1 = (1 : Int)›).symm | exact (getF2 ‹d1 = (2 : Int)›).symm | exact (getF3 ‹d1 = (3 : Int)›).symm, ho55⟩) ⟨⟨rfl, rfl, rfl, rfl, rfl, rfl, rfl, trivial⟩, fun _ h => h.sub [164, 159, 160, 161, 162, 163, 156, 0]⟩ ?_
    rintro ⟨k, b, b_A, b_c, b_m⟩ ⟨hk, hb, h_b⟩
    replace hk : k ≤ d0.2.2.2.2.2.2.length := hk
    replace hb : b = heldB d0.2.2.2.2.2.1 (d0.2.2.2.2.2.2.take k) d1 := hb
    replace h_b : OwnL .byte b_m mnil (.slice b_A b.length b_c) b := h_b
    show VC _ _ _ _ _ [(5, Value.slice b_A (b.length) (b_c)), (20, Value.int .i64 (((k : Nat) : Int))), (0, Value.pointer (some ⟨g0, 0, none⟩)), (1, Value.int .i64 (d1)), (4, Value.slice none (0) (0)), (18, Value.slice q58_A9 (d0.2.2.2.2.2.2.length) (q58_c9)), (19, Value.int .i64 (((d0.2.2.2.2.2.2.length : Nat) : Int)))] [(164, mone g0 (.cells [Value.bool d0.1, Value.bool d0.2.1, Value.bool d0.2.2.1, Value.int .i64 (d0.2.2.2.1), Value.int .i64 (d0.2.2.2.2.1), Value.slice q58_A5 (d0.2.2.2.2.2.1.1.length) (q58_c5), Value.slice q58_A6 (d0.2.2.2.2.2.1.2.1.length) (q58_c6), Value.slice q58_A7 (d0.2.2.2.2.2.1.2.2.1.length) (q58_c7), Value.slice q58_A8 (d0.2.2.2.2.2.1.2.2.2.length) (q58_c8), Value.slice q58_A9 (d0.2.2.2.2.2.2.length) (q58_c9)].toArray q58_E (0, 0))), (159, q58_n5), (160, q58_n6), (161, q58_n7), (162, q58_n8), (163, q58_n9), (156, b_m), (0, mout (wm W) (m0))]
    have l_b : b.length ≤ b_c := by obtain ⟨_, _, he, hl, _⟩ := h_b.slice; simp only [Value.slice.injEq] at he; omega
    have k_b : b_c ≤ 9223372036854775807 := by obtain ⟨_, _, he, _, hl⟩ := h_b.slice; simp only [Value.slice.injEq, maxLen] at he hl; omega
    refine VC.rs ?_
    refine VO.y rfl (.lss rfl rfl) ?_
    refine VO.k8 0 1 4 5 18 19 20 21 ?_
    refine VC.seq ?_
    refine VC.cond rfl (fun hc65 => ?_) (fun hc65 => ?_)
    · -- 2T
      refine VC.skip ?_
      refine outN ?_
      refine VC.seq ?_
      refine VC.block ?_
      refine VC.rs ?_
      obtain ⟨x66, hx66⟩ : ∃ z_, (d0.2.2.2.2.2.2)[k]? = some z_ := ⟨_, List.getElem?_eq_getElem bd⟩
      obtain ⟨gg66, oo66, ec66, ea66, hce66, hre66⟩ := (Ow.rd q58_9 (mle_refl _)).elem hx66
      cases ea66
      obtain ⟨q66_A2, q66_c2, rfl, q66_0, q66_1, q66_2, q66_3⟩ := open_diskstep (x0 := x66.1) (x1 := x66.2.1) (x2 := x66.2.2.1) (x3 := x66.2.2.2) hre66
      simp only [inK] at q66_0
      simp only [inK] at q66_1
      have q66_r2 := Rd.room q66_2
      simp only [inK] at q66_3
      refine VO.y rfl (.ixI k rfl rfl tsl63 rfl bd) ?_
      refine VO.y rfl (.ldA 163 rfl tk98 rfl hce66) ?_
      refine VO.alloc 168 rfl tz98 (fun g67 => ?_)
      refine VO.store (k := 4) (c' := [Value.int .i64 (x66.1), Value.int .i64 (x66.2.1), Value.slice q66_A2 (x66.2.2.1.length) (q66_c2), Value.int .i64 (x66.2.2.2)]) 168 rfl rfl (.inl tk98) rfl rfl rfl rfl rfl ?_
      refine VO.k9 0 1 4 5 7 18 19 20 21 ?_
      refine VC.rs ?_
      refine VO.y rfl (.fa rfl tst98 rfl) ?_
      refine VO.y rfl (.ld1 168 rfl tk3 rfl (cellsAt_one rfl rfl)) ?_
      refine VO.mv ?_
      refine VO.y rfl (.eql rfl rfl) ?_
      refine VO.kp [168, 164, 159, 160, 161, 162, 163, 156, 0] [(168, mone g67 (.cells [Value.int .i64 (x66.1), Value.int .i64 (x66.2.1), Value.slice q66_A2 (x66.2.2.1.length) (q66_c2), Value.int .i64 (x66.2.2.2)].toArray 98 (0, 0))), (164, mone g0 (.cells [Value.bool d0.1, Value.bool d0.2.1, Value.bool d0.2.2.1, Value.int .i64 (d0.2.2.2.1), Value.int .i64 (d0.2.2.2.2.1), Value.slice q58_A5 (d0.2.2.2.2.2.1.1.length) (q58_c5), Value.slice q58_A6 (d0.2.2.2.2.2.1.2.1.length) (q58_c6), Value.slice q58_A7 (d0.2.2.2.2.2.1.2.2.1.length) (q58_c7), Value.slice q58_A8 (d0.2.2.2.2.2.1.2.2.2.length) (q58_c8), Value.slice (some ⟨gg66, oo66, none⟩) (d0.2.2.2.2.2.2.length) (q58_c9)].toArray q58_E (0, 0))), (159, q58_n5), (160, q58_n6), (161, q58_n7), (162, q58_n8), (163, q58_n9), (156, b_m), (0, mout (wm W) (m0))] ?_
      refine VO.k10 0 1 4 5 7 18 19 20 21 27 ?_
      refine VC.cond rfl (fun hc69 => ?_) (fun hc69 => ?_)
      · -- 2TT
        refine VC.reg ?_
        refine VO.mv ?_
        refine VO.y rfl (.ldA 168 rfl tk98 rfl (cellsAt_one rfl rfl)) ?_
        refine VO.call 156 rfl fnOk63 rfl rfl (fun W hW => dDone_ok W (hW.at (i := 156) rfl) (OwnL.ow h_b rfl) (Rd.mono hre66 (hW.out (i := 156) (j := 163) rfl rfl)) (by exact held_cut hg hb ‹d0.2.2.2.2.2.2[k]? = some _› e2 ‹_ = d1›) (by (have h_ := held_room hb ‹d0.2.2.2.2.2.2[k]? = some _›; simp only [sizeQ] at h_; omega))) (fun v70 m70 hv70 => ?_)
        obtain ⟨s70_0, rfl, f70_0⟩ := hv70
        obtain ⟨A70_0, c70_0, eq70_0, l70_0, k70_0⟩ := f70_0.slice
        subst eq70_0
        simp only [maxLen] at k70_0
        refine VO.as ?_
        refine VO.k10 0 1 4 5 7 18 19 20 21 27 ?_
        refine outBN ?_
        refine outN ?_
        refine VC.reg ?_
        refine VO.y rfl (.add (c := ((k + 1 : Nat) : Int)) rfl rfl (by omega) ⟨bd, bd⟩) ?_
        refine VO.mv ?_
        refine VO.k10 0 1 4 5 7 18 19 20 21 27 ?_
        exact outN ⟨⟨k + 1, doneB b x66, A70_0, c70_0, m70⟩, ⟨by omega, by first | exact held_yes hb ‹d0.2.2.2.2.2.2[k]? = some _› ‹_ = d1› | exact held_no hb ‹d0.2.2.2.2.2.2[k]? = some _› ‹¬ _ = d1›, (Ow.ownl f70_0 rfl mnil)⟩, bd, ⟨⟨rfl, rfl, rfl, rfl, rfl, rfl, rfl, trivial⟩, fun _ h => Inv.sub h [164, 159, 160, 161, 162, 163, 156, 0]⟩⟩
      · -- 2TF
        refine VC.skip ?_
        refine outBN ?_
        refine outN ?_
        refine VC.reg ?_
        refine VO.y rfl (.add (c := ((k + 1 : Nat) : Int)) rfl rfl (by omega) ⟨bd, bd⟩) ?_
        refine VO.mv ?_
        refine VO.k10 0 1 4 5 7 18 19 20 21 27 ?_
        exact outN ⟨⟨k + 1, b, b_A, b_c, b_m⟩, ⟨by omega, by first | exact held_yes hb ‹d0.2.2.2.2.2.2[k]? = some _› ‹_ = d1› | exact held_no hb ‹d0.2.2.2.2.2.2[k]? = some _› ‹¬ _ = d1›, h_b⟩, bd, ⟨⟨rfl, rfl, rfl, rfl, rfl, rfl, rfl, trivial⟩, fun _ h => Inv.sub h [164, 159, 160, 161, 162, 163, 156, 0]⟩⟩
    · -- 2F
      refine VC.exit ?_
      refine outE ?_
      refine outE ?_
      refine outBB ?_
      refine outN ?_
      refine VC.rs ?_
      refine VO.mv ?_
      refine VO.as ?_
      refine VO.k8 0 1 4 5 18 19 20 21 ?_
      refine VC.ret ?_
      refine ⟨_, _, res_run (rs := [.tmp 4]) rfl (.tmp rfl .nil), fun W_ hI => out_of (l := [b_m, mone g0 (.cells [Value.bool d0.1, Value.bool d0.2.1, Value.bool d0.2.2.1, Value.int .i64 (d0.2.2.2.1), Value.int .i64 (d0.2.2.2.2.1), Value.slice q58_A5 (d0.2.2.2.2.2.1.1.length) (q58_c5), Value.slice q58_A6 (d0.2.2.2.2.2.1.2.1.length) (q58_c6), Value.slice q58_A7 (d0.2.2.2.2.2.1.2.2.1.length) (q58_c7), Value.slice q58_A8 (d0.2.2.2.2.2.1.2.2.2.length) (q58_c8), Value.slice q58_A9 (d0.2.2.2.2.2.2.length) (q58_c9)].toArray q58_E (0, 0)), q58_n5, q58_n6, q58_n7, q58_n8, q58_n9]) hI [156, 164, 159, 160, 161, 162, 163] rfl rfl (mle_refl _) (fun hS_ => ?_)⟩
      dsimp only [packV]
      have he0 : (heldB d0.2.2.2.2.2.1 d0.2.2.2.2.2.2 d1 : Ty.Den (.sl .byte)) = b := by first | rfl | (rw [hb, List.take_of_length_le (by omega)])
      have hm0_ : (d0 : DdiskDisk) = d0 := by first | rfl | (rw [hb, List.take_of_length_le (by omega)])
      refine ⟨Value.slice b_A (b.length) (b_c), muns [b_m], muns [mone g0 (.cells [Value.bool d0.1, Value.bool d0.2.1, Value.bool d0.2.2.1, Value.int .i64 (d0.2.2.2.1), Value.int .i64 (d0.2.2.2.2.1), Value.slice q58_A5 (d0.2.2.2.2.2.1.1.length) (q58_c5), Value.slice q58_A6 (d0.2.2.2.2.2.1.2.1.length) (q58_c6), Value.slice q58_A7 (d0.2.2.2.2.2.1.2.2.1.length) (q58_c7), Value.slice q58_A8 (d0.2.2.2.2.2.1.2.2.2.length) (q58_c8), Value.slice q58_A9 (d0.2.2.2.2.2.2.length) (q58_c9)].toArray q58_E (0, 0)), q58_n5, q58_n6, q58_n7, q58_n8, q58_n9], ?_, ?_, ?_, ?_⟩
      rotate_left
      · exact Seps.grp (ls := [[b_m], [mone g0 (.cells [Value.bool d0.1, Value.bool d0.2.1, Value.bool d0.2.2.1, Value.int .i64 (d0.2.2.2.1), Value.int .i64 (d0.2.2.2.2.1), Value.slice q58_A5 (d0.2.2.2.2.2.1.1.length) (q58_c5), Value.slice q58_A6 (d0.2.2.2.2.2.1.2.1.length) (q58_c6), Value.slice q58_A7 (d0.2.2.2.2.2.1.2.2.1.length) (q58_c7), Value.slice q58_A8 (d0.2.2.2.2.2.1.2.2.2.length) (q58_c8), Value.slice q58_A9 (d0.2.2.2.2.2.2.length) (q58_c9)].toArray q58_E (0, 0)), q58_n5, q58_n6, q58_n7, q58_n8, q58_n9]]) hS_
      · rw [he0]; exact (Ow.up (OwnL.ow h_b rfl) ((Seps.self hS_ (List.Sublist.cons_cons _ (List.Sublist.cons _ (List.Sublist.cons _ (List.Sublist.cons _ (List.Sublist.cons _ (List.Sublist.cons _ (List.Sublist.cons _ List.Sublist.slnil)))))))).1 _ (.head _)))
      · rw [hm0_]; exact (show Ow (.ptr TdiskDisk) _ _ (_, d0) from (mkP_diskDisk d0.1 d0.2.1 d0.2.2.1 d0.2.2.2.1 d0.2.2.2.2.1 d0.2.2.2.2.2.1.1 d0.2.2.2.2.2.1.2.1 d0.2.2.2.2.2.1.2.2.1 d0.2.2.2.2.2.1.2.2.2 d0.2.2.2.2.2.2 (Seps.self hS_ (List.Sublist.cons _ (List.Sublist.cons_cons _ (List.Sublist.cons_cons _ (List.Sublist.cons_cons _ (List.Sublist.cons_cons _ (List.Sublist.cons_cons _ (List.Sublist.cons_cons _ List.Sublist.slnil)))))))) bdk bdk (OwnL.ow (Ow.ownl q58_5 rfl mnil) rfl) (OwnL.ow (Ow.ownl q58_6 rfl mnil) rfl) (OwnL.ow (Ow.ownl q58_7 rfl mnil) rfl) (OwnL.ow (Ow.ownl q58_8 rfl mnil) rfl) q58_9))
      all_goals (first | rfl | (simp [*]; done))
  · -- 3
    refine VO.y rfl (.ixa (i := 3) (o := 8) rfl rfl tar62 hi1 rfl rfl) ?_
    obtain ⟨q71_E, q71_A5, q71_c5, q71_A6, q71_c6, q71_A7, q71_c7, q71_A8, q71_c8, q71_A9, q71_c9, q71_n5, q71_n6, q71_n7, q71_n8, q71_n9, _, q71_S, q71_3, q71_4, q71_5, q71_6, q71_7, q71_8, q71_9⟩ := openP_diskDisk (x0 := d0.1) (x1 := d0.2.1) (x2 := d0.2.2.1) (x3 := d0.2.2.2.1) (x4 := d0.2.2.2.2.1) (x5 := d0.2.2.2.2.2.1.1) (x6 := d0.2.2.2.2.2.1.2.1) (x7 := d0.2.2.2.2.2.1.2.2.1) (x8 := d0.2.2.2.2.2.1.2.2.2) (x9 := d0.2.2.2.2.2.2) h0
    simp only [inK] at q71_3
    simp only [inK] at q71_4
    have q71_r5 := q71_5.rm
    have q71_r6 := q71_6.rm
    have q71_r7 := q71_7.rm
    have q71_r8 := q71_8.rm
    have q71_r9 := q71_9.rm
    refine VO.inv _ (fun _ h => h.parts (i := 1) rfl q71_S [177, 172, 173, 174, 175, 176]) ?_
    refine VO.y rfl (.ld1 177 rfl tk22 rfl (cellsAt_one rfl rfl)) ?_
    refine VO.inv _ (fun _ h => h.nilc 179) ?_
    obtain ⟨mo78, cs78, hM78, hA78, hC78⟩ := (OwnL.nil .byte mnil mnil)
    obtain ⟨all78, hS78, hR78⟩ := Rd.srcI (P := Try.prog) ((OwnL.rd (Ow.ownl q71_8 rfl mnil) (mle_refl _) (mle_nil _))) Try.underlying22
    refine VO.app 179 rfl rfl rfl tsl22 tz5 rfl rfl hM78 hA78 (hS78 _ 175 rfl) hR78.nice bdm bd (by decide) (fun v78 m78 hN78 => ?_)
    have ho78 : OwnL .byte m78 mnil v78 (d0.2.2.2.2.2.1.2.2.2) := OwnL.more hC78 hN78 (All2c.mono hR78 fun _ _ h => Rd.flat rfl h _)
    obtain ⟨A78, c78, rfl, l78, k78⟩ := ho78.slice
    simp only [maxLen] at k78
    refine VO.as ?_
    refine VO.clsP 180 [177, 172, 173, 174, 175, 176] rfl (fun hg80 => (show Ow (.ptr TdiskDisk) _ _ (_, d0) from (mkP_diskDisk d0.1 d0.2.1 d0.2.2.1 d0.2.2.2.1 d0.2.2.2.2.1 d0.2.2.2.2.2.1.1 d0.2.2.2.2.2.1.2.1 d0.2.2.2.2.2.1.2.2.1 d0.2.2.2.2.2.1.2.2.2 d0.2.2.2.2.2.2 hg80 bdk bdk (OwnL.ow (Ow.ownl q71_5 rfl mnil) rfl) (OwnL.ow (Ow.ownl q71_6 rfl mnil) rfl) (OwnL.ow (Ow.ownl q71_7 rfl mnil) rfl) (OwnL.ow (Ow.ownl q71_8 rfl mnil) rfl) q71_9))) (fun mc80 ho80 => ?_)
    refine VO.k4 0 1 4 5 ?_
    refine VC.seq ?_
    refine VC.rs ?_
    refine VO.mv ?_
    refine VO.y rfl (.nilp rfl) ?_
    refine VO.y rfl (.fa rfl tst65 rfl) ?_
    obtain ⟨q81_E, q81_A5, q81_c5, q81_A6, q81_c6, q81_A7, q81_c7, q81_A8, q81_c8, q81_A9, q81_c9, q81_n5, q81_n6, q81_n7, q81_n8, q81_n9, _, q81_S, q81_3, q81_4, q81_5, q81_6, q81_7, q81_8, q81_9⟩ := openP_diskDisk (x0 := d0.1) (x1 := d0.2.1) (x2 := d0.2.2.1) (x3 := d0.2.2.2.1) (x4 := d0.2.2.2.2.1) (x5 := d0.2.2.2.2.2.1.1) (x6 := d0.2.2.2.2.2.1.2.1) (x7 := d0.2.2.2.2.2.1.2.2.1) (x8 := d0.2.2.2.2.2.1.2.2.2) (x9 := d0.2.2.2.2.2.2) ho80
    simp only [inK] at q81_3
    simp only [inK] at q81_4
    have q81_r5 := q81_5.rm
    have q81_r6 := q81_6.rm
    have q81_r7 := q81_7.rm
    have q81_r8 := q81_8.rm
    have q81_r9 := q81_9.rm
    refine VO.inv _ (fun _ h => h.parts (i := 180) rfl q81_S [187, 182, 183, 184, 185, 186]) ?_
    refine VO.y rfl (.ld1 187 rfl tk63 rfl (cellsAt_one rfl rfl)) ?_
    refine VO.y rfl (.lenS rfl tsl63) ?_
    refine VO.mv ?_
    refine VO.kp [187, 182, 183, 184, 185, 186, 179, 0] [(187, mone g0 (.cells [Value.bool d0.1, Value.bool d0.2.1, Value.bool d0.2.2.1, Value.int .i64 (d0.2.2.2.1), Value.int .i64 (d0.2.2.2.2.1), Value.slice q81_A5 (d0.2.2.2.2.2.1.1.length) (q81_c5), Value.slice q81_A6 (d0.2.2.2.2.2.1.2.1.length) (q81_c6), Value.slice q81_A7 (d0.2.2.2.2.2.1.2.2.1.length) (q81_c7), Value.slice q81_A8 (d0.2.2.2.2.2.1.2.2.2.length) (q81_c8), Value.slice q81_A9 (d0.2.2.2.2.2.2.length) (q81_c9)].toArray q81_E (0, 0))), (182, q81_n5), (183, q81_n6), (184, q81_n7), (185, q81_n8), (186, q81_n9), (179, m78), (0, mout (wm W) (m0))] ?_
    refine VO.k7 0 1 4 5 18 19 20 ?_
    refine VC.block ?_
    refine VC.loop (G := Nat × (List UInt8) × (Option Addr) × Nat × Mem) (fun g => [(5, Value.slice (g.2.2.1) ((g.2.1).length) ((g.2.2.2.1))), (20, Value.int .i64 ((((g.1) : Nat) : Int))), (0, Value.pointer (some ⟨g0, 0, none⟩)), (1, Value.int .i64 (d1)), (4, Value.slice none (0) (0)), (18, Value.slice q81_A9 (d0.2.2.2.2.2.2.length) (q81_c9)), (19, Value.int .i64 (((d0.2.2.2.2.2.2.length : Nat) : Int)))]) (fun g => [(187, mone g0 (.cells [Value.bool d0.1, Value.bool d0.2.1, Value.bool d0.2.2.1, Value.int .i64 (d0.2.2.2.1), Value.int .i64 (d0.2.2.2.2.1), Value.slice q81_A5 (d0.2.2.2.2.2.1.1.length) (q81_c5), Value.slice q81_A6 (d0.2.2.2.2.2.1.2.1.length) (q81_c6), Value.slice q81_A7 (d0.2.2.2.2.2.1.2.2.1.length) (q81_c7), Value.slice q81_A8 (d0.2.2.2.2.2.1.2.2.2.length) (q81_c8), Value.slice q81_A9 (d0.2.2.2.2.2.2.length) (q81_c9)].toArray q81_E (0, 0))), (182, q81_n5), (183, q81_n6), (184, q81_n7), (185, q81_n8), (186, q81_n9), (179, (g.2.2.2.2)), (0, mout (wm W) (m0))]) (fun g => ((g.1) ≤ d0.2.2.2.2.2.2.length) ∧ ((g.2.1) = heldB d0.2.2.2.2.2.1 (d0.2.2.2.2.2.2.take (g.1)) d1) ∧ (OwnL .byte (g.2.2.2.2) mnil (.slice (g.2.2.1) (g.2.1).length (g.2.2.2.1)) (g.2.1))) (fun g => d0.2.2.2.2.2.2.length - (g.1)) (0, d0.2.2.2.2.2.1.2.2.2, A78, c78, m78) (⟨by omega, by first | exact (getF0 ‹d1 = (0 : Int)›).symm | exact (getF1 ‹d1 = (1 : Int)›).symm | exact (getF2 ‹d1 = (2 : Int)›).symm | exact (getF3 ‹d1 = (3 : Int)›).symm, ho78⟩) ⟨⟨rfl, rfl, rfl, rfl, rfl, rfl, rfl, trivial⟩, fun _ h => h.sub [187, 182, 183, 184, 185, 186, 179, 0]⟩ ?_
    rintro ⟨k, b, b_A, b_c, b_m⟩ ⟨hk, hb, h_b⟩
    replace hk : k ≤ d0.2.2.2.2.2.2.length := hk
    replace hb : b = heldB d0.2.2.2.2.2.1 (d0.2.2.2.2.2.2.take k) d1 := hb
    replace h_b : OwnL .byte b_m mnil (.slice b_A b.length b_c) b := h_b
    show VC _ _ _ _ _ [(5, Value.slice b_A (b.length) (b_c)), (20, Value.int .i64 (((k : Nat) : Int))), (0, Value.pointer (some ⟨g0, 0, none⟩)), (1, Value.int .i64 (d1)), (4, Value.slice none (0) (0)), (18, Value.slice q81_A9 (d0.2.2.2.2.2.2.length) (q81_c9)), (19, Value.int .i64 (((d0.2.2.2.2.2.2.length : Nat) : Int)))] [(187, mone g0 (.cells [Value.bool d0.1, Value.bool d0.2.1, Value.bool d0.2.2.1, Value.int .i64 (d0.2.2.2.1), Value.int .i64 (d0.2.2.2.2.1), Value.slice q81_A5 (d0.2.2.2.2.2.1.1.length) (q81_c5), Value.slice q81_A6 (d0.2.2.2.2.2.1.2.1.length) (q81_c6), Value.slice q81_A7 (d0.2.2.2.2.2.1.2.2.1.length) (q81_c7), Value.slice q81_A8 (d0.2.2.2.2.2.1.2.2.2.length) (q81_c8), Value.slice q81_A9 (d0.2.2.2.2.2.2.length) (q81_c9)].toArray q81_E (0, 0))), (182, q81_n5), (183, q81_n6), (184, q81_n7), (185, q81_n8), (186, q81_n9), (179, b_m), (0, mout (wm W) (m0))]
    have l_b : b.length ≤ b_c := by obtain ⟨_, _, he, hl, _⟩ := h_b.slice; simp only [Value.slice.injEq] at he; omega
    have k_b : b_c ≤ 9223372036854775807 := by obtain ⟨_, _, he, _, hl⟩ := h_b.slice; simp only [Value.slice.injEq, maxLen] at he hl; omega
    refine VC.rs ?_
    refine VO.y rfl (.lss rfl rfl) ?_
    refine VO.k8 0 1 4 5 18 19 20 21 ?_
    refine VC.seq ?_
    refine VC.cond rfl (fun hc88 => ?_) (fun hc88 => ?_)
    · -- 3T
      refine VC.skip ?_
      refine outN ?_
      refine VC.seq ?_
      refine VC.block ?_
      refine VC.rs ?_
      obtain ⟨x89, hx89⟩ : ∃ z_, (d0.2.2.2.2.2.2)[k]? = some z_ := ⟨_, List.getElem?_eq_getElem bd⟩
      obtain ⟨gg89, oo89, ec89, ea89, hce89, hre89⟩ := (Ow.rd q81_9 (mle_refl _)).elem hx89
      cases ea89
      obtain ⟨q89_A2, q89_c2, rfl, q89_0, q89_1, q89_2, q89_3⟩ := open_diskstep (x0 := x89.1) (x1 := x89.2.1) (x2 := x89.2.2.1) (x3 := x89.2.2.2) hre89
      simp only [inK] at q89_0
      simp only [inK] at q89_1
      have q89_r2 := Rd.room q89_2
      simp only [inK] at q89_3
      refine VO.y rfl (.ixI k rfl rfl tsl63 rfl bd) ?_
      refine VO.y rfl (.ldA 186 rfl tk98 rfl hce89) ?_
      refine VO.alloc 191 rfl tz98 (fun g90 => ?_)
      refine VO.store (k := 4) (c' := [Value.int .i64 (x89.1), Value.int .i64 (x89.2.1), Value.slice q89_A2 (x89.2.2.1.length) (q89_c2), Value.int .i64 (x89.2.2.2)]) 191 rfl rfl (.inl tk98) rfl rfl rfl rfl rfl ?_
      refine VO.k9 0 1 4 5 7 18 19 20 21 ?_
      refine VC.rs ?_
      refine VO.y rfl (.fa rfl tst98 rfl) ?_
      refine VO.y rfl (.ld1 191 rfl tk3 rfl (cellsAt_one rfl rfl)) ?_
      refine VO.mv ?_
      refine VO.y rfl (.eql rfl rfl) ?_
      refine VO.kp [191, 187, 182, 183, 184, 185, 186, 179, 0] [(191, mone g90 (.cells [Value.int .i64 (x89.1), Value.int .i64 (x89.2.1), Value.slice q89_A2 (x89.2.2.1.length) (q89_c2), Value.int .i64 (x89.2.2.2)].toArray 98 (0, 0))), (187, mone g0 (.cells [Value.bool d0.1, Value.bool d0.2.1, Value.bool d0.2.2.1, Value.int .i64 (d0.2.2.2.1), Value.int .i64 (d0.2.2.2.2.1), Value.slice q81_A5 (d0.2.2.2.2.2.1.1.length) (q81_c5), Value.slice q81_A6 (d0.2.2.2.2.2.1.2.1.length) (q81_c6), Value.slice q81_A7 (d0.2.2.2.2.2.1.2.2.1.length) (q81_c7), Value.slice q81_A8 (d0.2.2.2.2.2.1.2.2.2.length) (q81_c8), Value.slice (some ⟨gg89, oo89, none⟩) (d0.2.2.2.2.2.2.length) (q81_c9)].toArray q81_E (0, 0))), (182, q81_n5), (183, q81_n6), (184, q81_n7), (185, q81_n8), (186, q81_n9), (179, b_m), (0, mout (wm W) (m0))] ?_
      refine VO.k10 0 1 4 5 7 18 19 20 21 27 ?_
      refine VC.cond rfl (fun hc92 => ?_) (fun hc92 => ?_)
      · -- 3TT
        refine VC.reg ?_
        refine VO.mv ?_
        refine VO.y rfl (.ldA 191 rfl tk98 rfl (cellsAt_one rfl rfl)) ?_
        refine VO.call 179 rfl fnOk63 rfl rfl (fun W hW => dDone_ok W (hW.at (i := 179) rfl) (OwnL.ow h_b rfl) (Rd.mono hre89 (hW.out (i := 179) (j := 186) rfl rfl)) (by exact held_cut hg hb ‹d0.2.2.2.2.2.2[k]? = some _› e2 ‹_ = d1›) (by (have h_ := held_room hb ‹d0.2.2.2.2.2.2[k]? = some _›; simp only [sizeQ] at h_; omega))) (fun v93 m93 hv93 => ?_)
        obtain ⟨s93_0, rfl, f93_0⟩ := hv93
        obtain ⟨A93_0, c93_0, eq93_0, l93_0, k93_0⟩ := f93_0.slice
        subst eq93_0
        simp only [maxLen] at k93_0
        refine VO.as ?_
        refine VO.k10 0 1 4 5 7 18 19 20 21 27 ?_
        refine outBN ?_
        refine outN ?_
        refine VC.reg ?_
        refine VO.y rfl (.add (c := ((k + 1 : Nat) : Int)) rfl rfl (by omega) ⟨bd, bd⟩) ?_
        refine VO.mv ?_
        refine VO.k10 0 1 4 5 7 18 19 20 21 27 ?_
        exact outN ⟨⟨k + 1, doneB b x89, A93_0, c93_0, m93⟩, ⟨by omega, by first | exact held_yes hb ‹d0.2.2.2.2.2.2[k]? = some _› ‹_ = d1› | exact held_no hb ‹d0.2.2.2.2.2.2[k]? = some _› ‹¬ _ = d1›, (Ow.ownl f93_0 rfl mnil)⟩, bd, ⟨⟨rfl, rfl, rfl, rfl, rfl, rfl, rfl, trivial⟩, fun _ h => Inv.sub h [187, 182, 183, 184, 185, 186, 179, 0]⟩⟩
      · -- 3TF
        refine VC.skip ?_
        refine outBN ?_
        refine outN ?_
        refine VC.reg ?_
        refine VO.y rfl (.add (c := ((k + 1 : Nat) : Int)) rfl rfl (by omega) ⟨bd, bd⟩) ?_
        refine VO.mv ?_
        refine VO.k10 0 1 4 5 7 18 19 20 21 27 ?_
        exact outN ⟨⟨k + 1, b, b_A, b_c, b_m⟩, ⟨by omega, by first | exact held_yes hb ‹d0.2.2.2.2.2.2[k]? = some _› ‹_ = d1› | exact held_no hb ‹d0.2.2.2.2.2.2[k]? = some _› ‹¬ _ = d1›, h_b⟩, bd, ⟨⟨rfl, rfl, rfl, rfl, rfl, rfl, rfl, trivial⟩, fun _ h => Inv.sub h [187, 182, 183, 184, 185, 186, 179, 0]⟩⟩
    · -- 3F
      refine VC.exit ?_
      refine outE ?_
      refine outE ?_
      refine outBB ?_
      refine outN ?_
      refine VC.rs ?_
      refine VO.mv ?_
      refine VO.as ?_
      refine VO.k8 0 1 4 5 18 19 20 21 ?_
      refine VC.ret ?_
      refine ⟨_, _, res_run (rs := [.tmp 4]) rfl (.tmp rfl .nil), fun W_ hI => out_of (l := [b_m, mone g0 (.cells [Value.bool d0.1, Value.bool d0.2.1, Value.bool d0.2.2.1, Value.int .i64 (d0.2.2.2.1), Value.int .i64 (d0.2.2.2.2.1), Value.slice q81_A5 (d0.2.2.2.2.2.1.1.length) (q81_c5), Value.slice q81_A6 (d0.2.2.2.2.2.1.2.1.length) (q81_c6), Value.slice q81_A7 (d0.2.2.2.2.2.1.2.2.1.length) (q81_c7), Value.slice q81_A8 (d0.2.2.2.2.2.1.2.2.2.length) (q81_c8), Value.slice q81_A9 (d0.2.2.2.2.2.2.length) (q81_c9)].toArray q81_E (0, 0)), q81_n5, q81_n6, q81_n7, q81_n8, q81_n9]) hI [179, 187, 182, 183, 184, 185, 186] rfl rfl (mle_refl _) (fun hS_ => ?_)⟩
      dsimp only [packV]
      have he0 : (heldB d0.2.2.2.2.2.1 d0.2.2.2.2.2.2 d1 : Ty.Den (.sl .byte)) = b := by first | rfl | (rw [hb, List.take_of_length_le (by omega)])
      have hm0_ : (d0 : DdiskDisk) = d0 := by first | rfl | (rw [hb, List.take_of_length_le (by omega)])
      refine ⟨Value.slice b_A (b.length) (b_c), muns [b_m], muns [mone g0 (.cells [Value.bool d0.1, Value.bool d0.2.1, Value.bool d0.2.2.1, Value.int .i64 (d0.2.2.2.1), Value.int .i64 (d0.2.2.2.2.1), Value.slice q81_A5 (d0.2.2.2.2.2.1.1.length) (q81_c5), Value.slice q81_A6 (d0.2.2.2.2.2.1.2.1.length) (q81_c6), Value.slice q81_A7 (d0.2.2.2.2.2.1.2.2.1.length) (q81_c7), Value.slice q81_A8 (d0.2.2.2.2.2.1.2.2.2.length) (q81_c8), Value.slice q81_A9 (d0.2.2.2.2.2.2.length) (q81_c9)].toArray q81_E (0, 0)), q81_n5, q81_n6, q81_n7, q81_n8, q81_n9], ?_, ?_, ?_, ?_⟩
      rotate_left
      · exact Seps.grp (ls := [[b_m], [mone g0 (.cells [Value.bool d0.1, Value.bool d0.2.1, Value.bool d0.2.2.1, Value.int .i64 (d0.2.2.2.1), Value.int .i64 (d0.2.2.2.2.1), Value.slice q81_A5 (d0.2.2.2.2.2.1.1.length) (q81_c5), Value.slice q81_A6 (d0.2.2.2.2.2.1.2.1.length) (q81_c6), Value.slice q81_A7 (d0.2.2.2.2.2.1.2.2.1.length) (q81_c7), Value.slice q81_A8 (d0.2.2.2.2.2.1.2.2.2.length) (q81_c8), Value.slice q81_A9 (d0.2.2.2.2.2.2.length) (q81_c9)].toArray q81_E (0, 0)), q81_n5, q81_n6, q81_n7, q81_n8, q81_n9]]) hS_
      · rw [he0]; exact (Ow.up (OwnL.ow h_b rfl) ((Seps.self hS_ (List.Sublist.cons_cons _ (List.Sublist.cons _ (List.Sublist.cons _ (List.Sublist.cons _ (List.Sublist.cons _ (List.Sublist.cons _ (List.Sublist.cons _ List.Sublist.slnil)))))))).1 _ (.head _)))
      · rw [hm0_]; exact (show Ow (.ptr TdiskDisk) _ _ (_, d0) from (mkP_diskDisk d0.1 d0.2.1 d0.2.2.1 d0.2.2.2.1 d0.2.2.2.2.1 d0.2.2.2.2.2.1.1 d0.2.2.2.2.2.1.2.1 d0.2.2.2.2.2.1.2.2.1 d0.2.2.2.2.2.1.2.2.2 d0.2.2.2.2.2.2 (Seps.self hS_ (List.Sublist.cons _ (List.Sublist.cons_cons _ (List.Sublist.cons_cons _ (List.Sublist.cons_cons _ (List.Sublist.cons_cons _ (List.Sublist.cons_cons _ (List.Sublist.cons_cons _ List.Sublist.slnil)))))))) bdk bdk (OwnL.ow (Ow.ownl q81_5 rfl mnil) rfl) (OwnL.ow (Ow.ownl q81_6 rfl mnil) rfl) (OwnL.ow (Ow.ownl q81_7 rfl mnil) rfl) (OwnL.ow (Ow.ownl q81_8 rfl mnil) rfl) q81_9))
      all_goals (first | rfl | (simp [*]; done))
theorem fin0_dSettle_ok {P : Prop} (h : P := by first | (have h_ := play_room hb (get_take ‹(d0.2.2.2.2.2.2.take d1.toNat)[k]? = some _›); rw [getF0 ‹_ = (0 : Int)›] at h_; simp only [sizeQ] at h_; omega) | (have h_ := play_room hb (get_take ‹(d0.2.2.2.2.2.2.take d1.toNat)[k]? = some _›); rw [getF1 ‹_ = (1 : Int)›] at h_; simp only [sizeQ] at h_; omega) | (have h_ := play_room hb (get_take ‹(d0.2.2.2.2.2.2.take d1.toNat)[k]? = some _›); rw [getF2 ‹_ = (2 : Int)›] at h_; simp only [sizeQ] at h_; omega) | (have h_ := play_room hb (get_take ‹(d0.2.2.2.2.2.2.take d1.toNat)[k]? = some _›); rw [getF3 ‹_ = (3 : Int)›] at h_; simp only [sizeQ] at h_; omega)) : P := h
theorem fin1_dSettle_ok {P : Prop} (h : P := by first | (have h_ := (play_cut hg hb (get_take ‹(d0.2.2.2.2.2.2.take d1.toNat)[k]? = some _›)).2; rw [getF0 ‹_ = (0 : Int)›] at h_; exact h_) | (have h_ := (play_cut hg hb (get_take ‹(d0.2.2.2.2.2.2.take d1.toNat)[k]? = some _›)).2; rw [getF1 ‹_ = (1 : Int)›] at h_; exact h_) | (have h_ := (play_cut hg hb (get_take ‹(d0.2.2.2.2.2.2.take d1.toNat)[k]? = some _›)).2; rw [getF2 ‹_ = (2 : Int)›] at h_; exact h_) | (have h_ := (play_cut hg hb (get_take ‹(d0.2.2.2.2.2.2.take d1.toNat)[k]? = some _›)).2; rw [getF3 ‹_ = (3 : Int)›] at h_; exact h_)) : P := h
theorem fin2_dSettle_ok {P : Prop} (h : P := by first | omega | (simp only [List.length_append, List.length_nil, List.length_cons, List.length_take, List.length_drop] at *; omega) | (have h_ := (play_cut hg hb (get_take ‹(d0.2.2.2.2.2.2.take d1.toNat)[k]? = some _›)).1; simp only [inF] at h_; omega)) : P := h
theorem dSettle_ok (W : World) {m0 : Mem} (hm : mle (m0) (wm W)) {g0 : Nat} {d0 : DdiskDisk} (h0 : Ow (.ptr TdiskDisk) m0 [.pointer (some ⟨g0, 0, none⟩)] (g0, d0)) (d1 : Int) (h1 : inK .i64 d1) (e0 : okD d0) (e1 : wD d0 ≤ 2*1000000000000) (e2 : 0 ≤ d1 ∧ d1 ≤ d0.2.2.2.2.2.2.length) : CallR Try.prog 62 [.pointer (some ⟨g0, 0, none⟩), .int .i64 d1] W (m0) (fun v m' => v = .tuple #[] ∧ Ow (.ptr TdiskDisk) m' [.pointer (some ⟨g0, 0, none⟩)] (g0, settleD d0 d1.toNat)) := by
  obtain ⟨hg, hfu, hst⟩ := e0; simp only [wD, sizeQ] at e1
  have h1' := h1; simp only [inK] at h1'
  refine CallR.ofB (n := 42) hm Try.func62 rfl rfl rfl ?_
  refine VC.seq ?_
  refine VC.rs ?_
  refine VO.mv ?_
  refine VO.y rfl (.nilp rfl) ?_
  refine VO.y rfl (.fa rfl tst65 rfl) ?_
  obtain ⟨q1_E, q1_A5, q1_c5, q1_A6, q1_c6, q1_A7, q1_c7, q1_A8, q1_c8, q1_A9, q1_c9, q1_n5, q1_n6, q1_n7, q1_n8, q1_n9, _, q1_S, q1_3, q1_4, q1_5, q1_6, q1_7, q1_8, q1_9⟩ := openP_diskDisk (x0 := d0.1) (x1 := d0.2.1) (x2 := d0.2.2.1) (x3 := d0.2.2.2.1) (x4 := d0.2.2.2.2.1) (x5 := d0.2.2.2.2.2.1.1) (x6 := d0.2.2.2.2.2.1.2.1) (x7 := d0.2.2.2.2.2.1.2.2.1) (x8 := d0.2.2.2.2.2.1.2.2.2) (x9 := d0.2.2.2.2.2.2) h0
  simp only [inK] at q1_3
  simp only [inK] at q1_4
  have q1_r5 := q1_5.rm
  have q1_r6 := q1_6.rm
  have q1_r7 := q1_7.rm
  have q1_r8 := q1_8.rm
  have q1_r9 := q1_9.rm
  refine VO.inv _ (fun _ h => h.parts (i := 1) rfl q1_S [107, 102, 103, 104, 105, 106]) ?_
  refine VO.y rfl (.ld1 107 rfl tk63 rfl (cellsAt_one rfl rfl)) ?_
  refine VO.mv ?_
  have hs8 := (Ow.rd q1_9 (mle_refl _)).pre (j := ((d1).toNat)) (by exact fin2_dSettle_ok)
  refine VO.y rfl (.slHI ((d1).toNat) rfl rfl tsl63 (by exact fin2_dSettle_ok) (by exact fin2_dSettle_ok)) ?_
  refine VO.y rfl (.lenS rfl tsl63) ?_
  refine VO.mv ?_
  refine VO.k5 0 1 11 12 13 ?_
  refine VC.block ?_
  refine VC.loop (G := Nat × (List UInt8) × (Option Addr) × Nat × Mem × (List UInt8) × (Option Addr) × Nat × Mem × (List UInt8) × (Option Addr) × Nat × Mem × (List UInt8) × (Option Addr) × Nat × Mem) (fun g => [(13, Value.int .i64 ((((g.1) : Nat) : Int))), (0, Value.pointer (some ⟨g0, 0, none⟩)), (1, Value.int .i64 (d1)), (11, Value.slice q1_A9 ((d1).toNat) (q1_c9)), (12, Value.int .i64 ((((d1).toNat : Nat) : Int)))]) (fun g => [(107, mone g0 (.cells [Value.bool d0.1, Value.bool d0.2.1, Value.bool d0.2.2.1, Value.int .i64 (d0.2.2.2.1), Value.int .i64 (d0.2.2.2.2.1), Value.slice (g.2.2.1) ((g.2.1).length) ((g.2.2.2.1)), Value.slice (g.2.2.2.2.2.2.1) ((g.2.2.2.2.2.1).length) ((g.2.2.2.2.2.2.2.1)), Value.slice (g.2.2.2.2.2.2.2.2.2.2.1) ((g.2.2.2.2.2.2.2.2.2.1).length) ((g.2.2.2.2.2.2.2.2.2.2.2.1)), Value.slice (g.2.2.2.2.2.2.2.2.2.2.2.2.2.2.1) ((g.2.2.2.2.2.2.2.2.2.2.2.2.2.1).length) ((g.2.2.2.2.2.2.2.2.2.2.2.2.2.2.2.1)), Value.slice q1_A9 (d0.2.2.2.2.2.2.length) (q1_c9)].toArray q1_E (0, 0))), (102, (g.2.2.2.2.1)), (103, (g.2.2.2.2.2.2.2.2.1)), (104, (g.2.2.2.2.2.2.2.2.2.2.2.2.1)), (105, (g.2.2.2.2.2.2.2.2.2.2.2.2.2.2.2.2)), (106, q1_n9), (0, mout (wm W) (m0))]) (fun g => ((g.1) ≤ d1.toNat) ∧ (((g.2.1), (g.2.2.2.2.2.1), (g.2.2.2.2.2.2.2.2.2.1), (g.2.2.2.2.2.2.2.2.2.2.2.2.2.1)) = play d0.2.2.2.2.2.1 (d0.2.2.2.2.2.2.take (g.1))) ∧ (OwnL .byte (g.2.2.2.2.1) mnil (.slice (g.2.2.1) (g.2.1).length (g.2.2.2.1)) (g.2.1)) ∧ (OwnL .byte (g.2.2.2.2.2.2.2.2.1) mnil (.slice (g.2.2.2.2.2.2.1) (g.2.2.2.2.2.1).length (g.2.2.2.2.2.2.2.1)) (g.2.2.2.2.2.1)) ∧ (OwnL .byte (g.2.2.2.2.2.2.2.2.2.2.2.2.1) mnil (.slice (g.2.2.2.2.2.2.2.2.2.2.1) (g.2.2.2.2.2.2.2.2.2.1).length (g.2.2.2.2.2.2.2.2.2.2.2.1)) (g.2.2.2.2.2.2.2.2.2.1)) ∧ (OwnL .byte (g.2.2.2.2.2.2.2.2.2.2.2.2.2.2.2.2) mnil (.slice (g.2.2.2.2.2.2.2.2.2.2.2.2.2.2.1) (g.2.2.2.2.2.2.2.2.2.2.2.2.2.1).length (g.2.2.2.2.2.2.2.2.2.2.2.2.2.2.2.1)) (g.2.2.2.2.2.2.2.2.2.2.2.2.2.1))) (fun g => d1.toNat - (g.1)) (0, d0.2.2.2.2.2.1.1, q1_A5, q1_c5, q1_n5, d0.2.2.2.2.2.1.2.1, q1_A6, q1_c6, q1_n6, d0.2.2.2.2.2.1.2.2.1, q1_A7, q1_c7, q1_n7, d0.2.2.2.2.2.1.2.2.2, q1_A8, q1_c8, q1_n8) (⟨by omega, by rfl, (Ow.ownl q1_5 rfl mnil), (Ow.ownl q1_6 rfl mnil), (Ow.ownl q1_7 rfl mnil), (Ow.ownl q1_8 rfl mnil)⟩) ⟨⟨rfl, rfl, rfl, rfl, rfl, trivial⟩, fun _ h => h.sub [107, 102, 103, 104, 105, 106, 0]⟩ ?_
  rintro ⟨k, b0, b0_A, b0_c, b0_m, b1, b1_A, b1_c, b1_m, b2, b2_A, b2_c, b2_m, b3, b3_A, b3_c, b3_m⟩ ⟨hk, hb, h_b0, h_b1, h_b2, h_b3⟩
  replace hk : k ≤ d1.toNat := hk
  replace hb : (b0, b1, b2, b3) = play d0.2.2.2.2.2.1 (d0.2.2.2.2.2.2.take k) := hb
  replace h_b0 : OwnL .byte b0_m mnil (.slice b0_A b0.length b0_c) b0 := h_b0
  replace h_b1 : OwnL .byte b1_m mnil (.slice b1_A b1.length b1_c) b1 := h_b1
  replace h_b2 : OwnL .byte b2_m mnil (.slice b2_A b2.length b2_c) b2 := h_b2
  replace h_b3 : OwnL .byte b3_m mnil (.slice b3_A b3.length b3_c) b3 := h_b3
  show VC _ _ _ _ _ [(13, Value.int .i64 (((k : Nat) : Int))), (0, Value.pointer (some ⟨g0, 0, none⟩)), (1, Value.int .i64 (d1)), (11, Value.slice q1_A9 ((d1).toNat) (q1_c9)), (12, Value.int .i64 ((((d1).toNat : Nat) : Int)))] [(107, mone g0 (.cells [Value.bool d0.1, Value.bool d0.2.1, Value.bool d0.2.2.1, Value.int .i64 (d0.2.2.2.1), Value.int .i64 (d0.2.2.2.2.1), Value.slice b0_A (b0.length) (b0_c), Value.slice b1_A (b1.length) (b1_c), Value.slice b2_A (b2.length) (b2_c), Value.slice b3_A (b3.length) (b3_c), Value.slice q1_A9 (d0.2.2.2.2.2.2.length) (q1_c9)].toArray q1_E (0, 0))), (102, b0_m), (103, b1_m), (104, b2_m), (105, b3_m), (106, q1_n9), (0, mout (wm W) (m0))]
  have l_b0 : b0.length ≤ b0_c := by obtain ⟨_, _, he, hl, _⟩ := h_b0.slice; simp only [Value.slice.injEq] at he; omega
  have k_b0 : b0_c ≤ 9223372036854775807 := by obtain ⟨_, _, he, _, hl⟩ := h_b0.slice; simp only [Value.slice.injEq, maxLen] at he hl; omega
  have l_b1 : b1.length ≤ b1_c := by obtain ⟨_, _, he, hl, _⟩ := h_b1.slice; simp only [Value.slice.injEq] at he; omega
  have k_b1 : b1_c ≤ 9223372036854775807 := by obtain ⟨_, _, he, _, hl⟩ := h_b1.slice; simp only [Value.slice.injEq, maxLen] at he hl; omega
  have l_b2 : b2.length ≤ b2_c := by obtain ⟨_, _, he, hl, _⟩ := h_b2.slice; simp only [Value.slice.injEq] at he; omega
  have k_b2 : b2_c ≤ 9223372036854775807 := by obtain ⟨_, _, he, _, hl⟩ := h_b2.slice; simp only [Value.slice.injEq, maxLen] at he hl; omega
  have l_b3 : b3.length ≤ b3_c := by obtain ⟨_, _, he, hl, _⟩ := h_b3.slice; simp only [Value.slice.injEq] at he; omega
  have k_b3 : b3_c ≤ 9223372036854775807 := by obtain ⟨_, _, he, _, hl⟩ := h_b3.slice; simp only [Value.slice.injEq, maxLen] at he hl; omega
  refine VC.rs ?_
  refine VO.y rfl (.lss rfl rfl) ?_
  refine VO.k6 0 1 11 12 13 14 ?_
  refine VC.seq ?_
  refine VC.cond rfl (fun hc9 => ?_) (fun hc9 => ?_)
  · -- T
    refine VC.skip ?_
    refine outN ?_
    refine VC.seq ?_
    refine VC.block ?_
    refine VC.rs ?_
    obtain ⟨x10, hx10⟩ : ∃ z_, ((d0.2.2.2.2.2.2).take ((d1).toNat))[k]? = some z_ := ⟨_, List.getElem?_eq_getElem (by exact fin2_dSettle_ok)⟩
    obtain ⟨gg10, oo10, ec10, ea10, hce10, hre10⟩ := (Ow.rd (q1_9.pre (j := ((d1).toNat)) (by exact fin2_dSettle_ok)) (mle_refl _)).elem hx10
    cases ea10
    obtain ⟨q10_A2, q10_c2, rfl, q10_0, q10_1, q10_2, q10_3⟩ := open_diskstep (x0 := x10.1) (x1 := x10.2.1) (x2 := x10.2.2.1) (x3 := x10.2.2.2) hre10
    simp only [inK] at q10_0
    simp only [inK] at q10_1
    have q10_r2 := Rd.room q10_2
    simp only [inK] at q10_3
    refine VO.y rfl (.ixI k rfl rfl tsl63 rfl (by exact fin2_dSettle_ok)) ?_
    refine VO.y rfl (.ldA 106 rfl tk98 rfl hce10) ?_
    refine VO.alloc 112 rfl tz98 (fun g11 => ?_)
    refine VO.store (k := 4) (c' := [Value.int .i64 (x10.1), Value.int .i64 (x10.2.1), Value.slice q10_A2 (x10.2.2.1.length) (q10_c2), Value.int .i64 (x10.2.2.2)]) 112 rfl rfl (.inl tk98) rfl rfl rfl rfl rfl ?_
    refine VO.kp [112, 107, 102, 103, 104, 105, 106, 0] [(112, mone g11 (.cells [Value.int .i64 (x10.1), Value.int .i64 (x10.2.1), Value.slice q10_A2 (x10.2.2.1.length) (q10_c2), Value.int .i64 (x10.2.2.2)].toArray 98 (0, 0))), (107, mone g0 (.cells [Value.bool d0.1, Value.bool d0.2.1, Value.bool d0.2.2.1, Value.int .i64 (d0.2.2.2.1), Value.int .i64 (d0.2.2.2.2.1), Value.slice b0_A (b0.length) (b0_c), Value.slice b1_A (b1.length) (b1_c), Value.slice b2_A (b2.length) (b2_c), Value.slice b3_A (b3.length) (b3_c), Value.slice (some ⟨gg10, oo10, none⟩) (d0.2.2.2.2.2.2.length) (q1_c9)].toArray q1_E (0, 0))), (102, b0_m), (103, b1_m), (104, b2_m), (105, b3_m), (106, q1_n9), (0, mout (wm W) (m0))] ?_
    refine VO.k7 0 1 5 11 12 13 14 ?_
    refine VC.regD _ 14 [(0, true), (1, true), (2, true), (3, true), (4, true), (5, true), (6, true), (7, true), (8, true), (9, true), (10, true), (12, true), (13, true), (11, false)] follows (by kernel_rfl) (fun _ h => h.sub [112, 107, 106, 0]) ?_
    refine VD.y rfl rfl (.inl rfl) (.mv rfl) ?_
    refine VD.y rfl rfl (.inl rfl) (.fa rfl tst98 rfl) ?_
    refine VD.y rfl rfl (.inl rfl) (.ld1 112 rfl tk3 rfl (cellsAt_one rfl rfl)) ?_
    refine VD.y rfl rfl (.inl rfl) (.mv rfl) ?_
    refine VD.y rfl rfl (.inl rfl) (.fa rfl tst98 rfl) ?_
    refine VD.y rfl rfl (.inl rfl) (.ld1 112 rfl tk3 rfl (cellsAt_one rfl rfl)) ?_
    refine VD.y rfl rfl (.inl rfl) (.nilp rfl) ?_
    refine VD.y rfl rfl (.inl rfl) (.fa rfl tst65 rfl) ?_
    rcases (show x10.2.1 = (0 : Int) ∨ x10.2.1 = (1 : Int) ∨ x10.2.1 = (2 : Int) ∨ x10.2.1 = (3 : Int) from by exact fin2_dSettle_ok) with hi13 | hi13 | hi13 | hi13
    · -- T0
      refine VD.y rfl rfl (.inl rfl) (.ixa (i := 0) (o := 5) rfl rfl tar62 hi13 rfl rfl) ?_
      refine VD.y rfl rfl (.inl rfl) (.ld1 107 rfl tk22 rfl (cellsAt_one rfl rfl)) ?_
      refine VD.y rfl rfl (.inl rfl) (.ldA 112 rfl tk98 rfl (cellsAt_one rfl rfl)) ?_
      refine VD.y rfl rfl (.inl rfl) (.nilp rfl) ?_
      refine VD.y rfl rfl (.inl rfl) (.fa rfl tst65 rfl) ?_
      refine VD.call 102 rfl rfl (.inl rfl) fnOk63 rfl rfl (fun _ _ h => h.sub [112, 107, 106, 0]) (fun W hW => dDone_ok W (hW.at (i := 102) rfl) (OwnL.ow h_b0 rfl) (Rd.mono hre10 (hW.out (i := 102) (j := 106) rfl rfl)) (by exact fin1_dSettle_ok) (by exact fin0_dSettle_ok)) (fun v14 m14 hv14 => ?_)
      obtain ⟨s14_0, rfl, f14_0⟩ := hv14
      obtain ⟨A14_0, c14_0, eq14_0, l14_0, k14_0⟩ := f14_0.slice
      subst eq14_0
      simp only [maxLen] at k14_0
      refine VD.nil rfl ?_ rfl
      refine VO.y rfl (.ixa (i := 0) (o := 5) rfl rfl tar62 hi13 rfl rfl) ?_
      refine VO.store (k := 1) 107 rfl rfl (.inr ⟨tk22, rfl⟩) rfl rfl rfl rfl rfl ?_
      refine VO.k7 0 1 5 11 12 13 14 ?_
      refine outBN ?_
      refine outN ?_
      refine VC.reg ?_
      refine VO.y rfl (.add (c := ((k + 1 : Nat) : Int)) rfl rfl (by omega) ⟨by exact fin2_dSettle_ok, by exact fin2_dSettle_ok⟩) ?_
      refine VO.mv ?_
      refine VO.k7 0 1 5 11 12 13 14 ?_
      exact outN ⟨⟨k + 1, doneB b0 x10, A14_0, c14_0, m14, b1, b1_A, b1_c, b1_m, b2, b2_A, b2_c, b2_m, b3, b3_A, b3_c, b3_m⟩, ⟨by omega, by first | (have h_ := play_next hb (get_take ‹(d0.2.2.2.2.2.2.take d1.toNat)[k]? = some _›); rw [stepQ, setQ0 ‹_ = (0 : Int)›, getF0 ‹_ = (0 : Int)›] at h_; exact h_) | (have h_ := play_next hb (get_take ‹(d0.2.2.2.2.2.2.take d1.toNat)[k]? = some _›); rw [stepQ, setQ1 ‹_ = (1 : Int)›, getF1 ‹_ = (1 : Int)›] at h_; exact h_) | (have h_ := play_next hb (get_take ‹(d0.2.2.2.2.2.2.take d1.toNat)[k]? = some _›); rw [stepQ, setQ2 ‹_ = (2 : Int)›, getF2 ‹_ = (2 : Int)›] at h_; exact h_) | (have h_ := play_next hb (get_take ‹(d0.2.2.2.2.2.2.take d1.toNat)[k]? = some _›); rw [stepQ, setQ3 ‹_ = (3 : Int)›, getF3 ‹_ = (3 : Int)›] at h_; exact h_), (Ow.ownl f14_0 rfl mnil), h_b1, h_b2, h_b3⟩, by exact fin2_dSettle_ok, ⟨⟨rfl, rfl, rfl, rfl, rfl, trivial⟩, fun _ h => Inv.sub h [107, 102, 103, 104, 105, 106, 0]⟩⟩
    · -- T1
      refine VD.y rfl rfl (.inl rfl) (.ixa (i := 1) (o := 6) rfl rfl tar62 hi13 rfl rfl) ?_
      refine VD.y rfl rfl (.inl rfl) (.ld1 107 rfl tk22 rfl (cellsAt_one rfl rfl)) ?_
      refine VD.y rfl rfl (.inl rfl) (.ldA 112 rfl tk98 rfl (cellsAt_one rfl rfl)) ?_
      refine VD.y rfl rfl (.inl rfl) (.nilp rfl) ?_
      refine VD.y rfl rfl (.inl rfl) (.fa rfl tst65 rfl) ?_
      refine VD.call 103 rfl rfl (.inl rfl) fnOk63 rfl rfl (fun _ _ h => h.sub [112, 107, 106, 0]) (fun W hW => dDone_ok W (hW.at (i := 103) rfl) (OwnL.ow h_b1 rfl) (Rd.mono hre10 (hW.out (i := 103) (j := 106) rfl rfl)) (by exact fin1_dSettle_ok) (by exact fin0_dSettle_ok)) (fun v15 m15 hv15 => ?_)
      obtain ⟨s15_0, rfl, f15_0⟩ := hv15
      obtain ⟨A15_0, c15_0, eq15_0, l15_0, k15_0⟩ := f15_0.slice
      subst eq15_0
      simp only [maxLen] at k15_0
      refine VD.nil rfl ?_ rfl
      refine VO.y rfl (.ixa (i := 1) (o := 6) rfl rfl tar62 hi13 rfl rfl) ?_
      refine VO.store (k := 1) 107 rfl rfl (.inr ⟨tk22, rfl⟩) rfl rfl rfl rfl rfl ?_
      refine VO.k7 0 1 5 11 12 13 14 ?_
      refine outBN ?_
      refine outN ?_
      refine VC.reg ?_
      refine VO.y rfl (.add (c := ((k + 1 : Nat) : Int)) rfl rfl (by omega) ⟨by exact fin2_dSettle_ok, by exact fin2_dSettle_ok⟩) ?_
      refine VO.mv ?_
      refine VO.k7 0 1 5 11 12 13 14 ?_
      exact outN ⟨⟨k + 1, b0, b0_A, b0_c, b0_m, doneB b1 x10, A15_0, c15_0, m15, b2, b2_A, b2_c, b2_m, b3, b3_A, b3_c, b3_m⟩, ⟨by omega, by first | (have h_ := play_next hb (get_take ‹(d0.2.2.2.2.2.2.take d1.toNat)[k]? = some _›); rw [stepQ, setQ0 ‹_ = (0 : Int)›, getF0 ‹_ = (0 : Int)›] at h_; exact h_) | (have h_ := play_next hb (get_take ‹(d0.2.2.2.2.2.2.take d1.toNat)[k]? = some _›); rw [stepQ, setQ1 ‹_ = (1 : Int)›, getF1 ‹_ = (1 : Int)›] at h_; exact h_) | (have h_ := play_next hb (get_take ‹(d0.2.2.2.2.2.2.take d1.toNat)[k]? = some _›); rw [stepQ, setQ2 ‹_ = (2 : Int)›, getF2 ‹_ = (2 : Int)›] at h_; exact h_) | (have h_ := play_next hb (get_take ‹(d0.2.2.2.2.2.2.take d1.toNat)[k]? = some _›); rw [stepQ, setQ3 ‹_ = (3 : Int)›, getF3 ‹_ = (3 : Int)›] at h_; exact h_), h_b0, (Ow.ownl f15_0 rfl mnil), h_b2, h_b3⟩, by exact fin2_dSettle_ok, ⟨⟨rfl, rfl, rfl, rfl, rfl, trivial⟩, fun _ h => Inv.sub h [107, 102, 103, 104, 105, 106, 0]⟩⟩
    · -- T2
      refine VD.y rfl rfl (.inl rfl) (.ixa (i := 2) (o := 7) rfl rfl tar62 hi13 rfl rfl) ?_
      refine VD.y rfl rfl (.inl rfl) (.ld1 107 rfl tk22 rfl (cellsAt_one rfl rfl)) ?_
      refine VD.y rfl rfl (.inl rfl) (.ldA 112 rfl tk98 rfl (cellsAt_one rfl rfl)) ?_
      refine VD.y rfl rfl (.inl rfl) (.nilp rfl) ?_
      refine VD.y rfl rfl (.inl rfl) (.fa rfl tst65 rfl) ?_
      refine VD.call 104 rfl rfl (.inl rfl) fnOk63 rfl rfl (fun _ _ h => h.sub [112, 107, 106, 0]) (fun W hW => dDone_ok W (hW.at (i := 104) rfl) (OwnL.ow h_b2 rfl) (Rd.mono hre10 (hW.out (i := 104) (j := 106) rfl rfl)) (by exact fin1_dSettle_ok) (by exact fin0_dSettle_ok)) (fun v16 m16 hv16 => ?_)
      obtain ⟨s16_0, rfl, f16_0⟩ := hv16
      obtain ⟨A16_0, c16_0, eq16_0, l16_0, k16_0⟩ := f16_0.slice
      subst eq16_0
      simp only [maxLen] at k16_0
      refine VD.nil rfl ?_ rfl
      refine VO.y rfl (.ixa (i := 2) (o := 7) rfl rfl tar62 hi13 rfl rfl) ?_
      refine VO.store (k := 1) 107 rfl rfl (.inr ⟨tk22, rfl⟩) rfl rfl rfl rfl rfl ?_
      refine VO.k7 0 1 5 11 12 13 14 ?_
      refine outBN ?_
      refine outN ?_
      refine VC.reg ?_
      refine VO.y rfl (.add (c := ((k + 1 : Nat) : Int)) rfl rfl (by omega) ⟨by exact fin2_dSettle_ok, by exact fin2_dSettle_ok⟩) ?_
      refine VO.mv ?_
      refine VO.k7 0 1 5 11 12 13 14 ?_
      exact outN ⟨⟨k + 1, b0, b0_A, b0_c, b0_m, b1, b1_A, b1_c, b1_m, doneB b2 x10, A16_0, c16_0, m16, b3, b3_A, b3_c, b3_m⟩, ⟨by omega, by first | (have h_ := play_next hb (get_take ‹(d0.2.2.2.2.2.2.take d1.toNat)[k]? = some _›); rw [stepQ, setQ0 ‹_ = (0 : Int)›, getF0 ‹_ = (0 : Int)›] at h_; exact h_) | (have h_ := play_next hb (get_take ‹(d0.2.2.2.2.2.2.take d1.toNat)[k]? = some _›); rw [stepQ, setQ1 ‹_ = (1 : Int)›, getF1 ‹_ = (1 : Int)›] at h_; exact h_) | (have h_ := play_next hb (get_take ‹(d0.2.2.2.2.2.2.take d1.toNat)[k]? = some _›); rw [stepQ, setQ2 ‹_ = (2 : Int)›, getF2 ‹_ = (2 : Int)›] at h_; exact h_) | (have h_ := play_next hb (get_take ‹(d0.2.2.2.2.2.2.take d1.toNat)[k]? = some _›); rw [stepQ, setQ3 ‹_ = (3 : Int)›, getF3 ‹_ = (3 : Int)›] at h_; exact h_), h_b0, h_b1, (Ow.ownl f16_0 rfl mnil), h_b3⟩, by exact fin2_dSettle_ok, ⟨⟨rfl, rfl, rfl, rfl, rfl, trivial⟩, fun _ h => Inv.sub h [107, 102, 103, 104, 105, 106, 0]⟩⟩
    · -- T3
      refine VD.y rfl rfl (.inl rfl) (.ixa (i := 3) (o := 8) rfl rfl tar62 hi13 rfl rfl) ?_
      refine VD.y rfl rfl (.inl rfl) (.ld1 107 rfl tk22 rfl (cellsAt_one rfl rfl)) ?_
      refine VD.y rfl rfl (.inl rfl) (.ldA 112 rfl tk98 rfl (cellsAt_one rfl rfl)) ?_
      refine VD.y rfl rfl (.inl rfl) (.nilp rfl) ?_
      refine VD.y rfl rfl (.inl rfl) (.fa rfl tst65 rfl) ?_
      refine VD.call 105 rfl rfl (.inl rfl) fnOk63 rfl rfl (fun _ _ h => h.sub [112, 107, 106, 0]) (fun W hW => dDone_ok W (hW.at (i := 105) rfl) (OwnL.ow h_b3 rfl) (Rd.mono hre10 (hW.out (i := 105) (j := 106) rfl rfl)) (by exact fin1_dSettle_ok) (by exact fin0_dSettle_ok)) (fun v17 m17 hv17 => ?_)
      obtain ⟨s17_0, rfl, f17_0⟩ := hv17
      obtain ⟨A17_0, c17_0, eq17_0, l17_0, k17_0⟩ := f17_0.slice
      subst eq17_0
      simp only [maxLen] at k17_0
      refine VD.nil rfl ?_ rfl
      refine VO.y rfl (.ixa (i := 3) (o := 8) rfl rfl tar62 hi13 rfl rfl) ?_
      refine VO.store (k := 1) 107 rfl rfl (.inr ⟨tk22, rfl⟩) rfl rfl rfl rfl rfl ?_
      refine VO.k7 0 1 5 11 12 13 14 ?_
      refine outBN ?_
      refine outN ?_
      refine VC.reg ?_
      refine VO.y rfl (.add (c := ((k + 1 : Nat) : Int)) rfl rfl (by omega) ⟨by exact fin2_dSettle_ok, by exact fin2_dSettle_ok⟩) ?_
      refine VO.mv ?_
      refine VO.k7 0 1 5 11 12 13 14 ?_
      exact outN ⟨⟨k + 1, b0, b0_A, b0_c, b0_m, b1, b1_A, b1_c, b1_m, b2, b2_A, b2_c, b2_m, doneB b3 x10, A17_0, c17_0, m17⟩, ⟨by omega, by first | (have h_ := play_next hb (get_take ‹(d0.2.2.2.2.2.2.take d1.toNat)[k]? = some _›); rw [stepQ, setQ0 ‹_ = (0 : Int)›, getF0 ‹_ = (0 : Int)›] at h_; exact h_) | (have h_ := play_next hb (get_take ‹(d0.2.2.2.2.2.2.take d1.toNat)[k]? = some _›); rw [stepQ, setQ1 ‹_ = (1 : Int)›, getF1 ‹_ = (1 : Int)›] at h_; exact h_) | (have h_ := play_next hb (get_take ‹(d0.2.2.2.2.2.2.take d1.toNat)[k]? = some _›); rw [stepQ, setQ2 ‹_ = (2 : Int)›, getF2 ‹_ = (2 : Int)›] at h_; exact h_) | (have h_ := play_next hb (get_take ‹(d0.2.2.2.2.2.2.take d1.toNat)[k]? = some _›); rw [stepQ, setQ3 ‹_ = (3 : Int)›, getF3 ‹_ = (3 : Int)›] at h_; exact h_), h_b0, h_b1, h_b2, (Ow.ownl f17_0 rfl mnil)⟩, by exact fin2_dSettle_ok, ⟨⟨rfl, rfl, rfl, rfl, rfl, trivial⟩, fun _ h => Inv.sub h [107, 102, 103, 104, 105, 106, 0]⟩⟩
  · -- F
    refine VC.exit ?_
    refine outE ?_
    refine outE ?_
    refine outBB ?_
    refine outN ?_
    refine VC.reg ?_
    refine VO.mv ?_
    refine VO.mv ?_
    refine VO.y rfl (.nilp rfl) ?_
    refine VO.y rfl (.fa rfl tst65 rfl) ?_
    refine VO.y rfl (.ld1 107 rfl tk63 rfl (cellsAt_one rfl rfl)) ?_
    refine VO.mv ?_
    obtain ⟨A18, hA18, ho18⟩ := q1_9.drop' 4 ((d1).toNat) rfl (by exact fin2_dSettle_ok)
    refine VO.y rfl (.slLI ((d1).toNat) A18 rfl rfl tsl63 (by exact fin2_dSettle_ok) hA18 (by exact fin2_dSettle_ok)) ?_
    refine VO.y rfl (.nilp rfl) ?_
    refine VO.y rfl (.fa rfl tst65 rfl) ?_
    refine VO.store (k := 1) 107 rfl rfl (.inr ⟨tk63, rfl⟩) rfl rfl rfl rfl rfl ?_
    refine VO.kp [107, 102, 103, 104, 105, 106, 0] [(107, mone g0 (.cells [Value.bool d0.1, Value.bool d0.2.1, Value.bool d0.2.2.1, Value.int .i64 (d0.2.2.2.1), Value.int .i64 (d0.2.2.2.2.1), Value.slice b0_A (b0.length) (b0_c), Value.slice b1_A (b1.length) (b1_c), Value.slice b2_A (b2.length) (b2_c), Value.slice b3_A (b3.length) (b3_c), Value.slice A18 (d0.2.2.2.2.2.2.length - ((d1).toNat)) (q1_c9 - ((d1).toNat))].toArray q1_E (0, 0))), (102, b0_m), (103, b1_m), (104, b2_m), (105, b3_m), (106, q1_n9), (0, mout (wm W) (m0))] ?_
    refine VO.k6 0 1 11 12 13 14 ?_
    refine ⟨_, _, res_run (rs := []) rfl .nil, fun W_ hI => out_of (l := [mone g0 (.cells [Value.bool d0.1, Value.bool d0.2.1, Value.bool d0.2.2.1, Value.int .i64 (d0.2.2.2.1), Value.int .i64 (d0.2.2.2.2.1), Value.slice b0_A (b0.length) (b0_c), Value.slice b1_A (b1.length) (b1_c), Value.slice b2_A (b2.length) (b2_c), Value.slice b3_A (b3.length) (b3_c), Value.slice A18 (d0.2.2.2.2.2.2.length - ((d1).toNat)) (q1_c9 - ((d1).toNat))].toArray q1_E (0, 0)), b0_m, b1_m, b2_m, b3_m, q1_n9]) hI [107, 102, 103, 104, 105, 106] rfl rfl (mle_refl _) (fun hS_ => ?_)⟩
    dsimp only [packV]
    have hm0_ : (settleD d0 d1.toNat : DdiskDisk) = (d0.1, d0.2.1, d0.2.2.1, d0.2.2.2.1, d0.2.2.2.2.1, (b0, b1, b2, b3), d0.2.2.2.2.2.2.drop ((d1).toNat)) := by first | rfl | ((have hk2 : k = d1.toNat := (by omega); subst hk2; unfold settleD; rw [← hb]))
    refine ⟨?_, ?_⟩
    rotate_left
    · rw [hm0_]; exact (mkP_diskDisk d0.1 d0.2.1 d0.2.2.1 d0.2.2.2.1 d0.2.2.2.2.1 b0 b1 b2 b3 (d0.2.2.2.2.2.2.drop ((d1).toNat)) hS_ (by simp only [inK]; (exact fin2_dSettle_ok)) (by simp only [inK]; (exact fin2_dSettle_ok)) (OwnL.ow h_b0 rfl) (OwnL.ow h_b1 rfl) (OwnL.ow h_b2 rfl) (OwnL.ow h_b3 rfl) ho18)
    all_goals (first | rfl | (simp [*]; done))
end
section
set_option linter.unusedVariables false
set_option linter.unusedSimpArgs false
set_option maxRecDepth 4000
theorem fnOk59 : fnOk Try.prog 59 = true := by kernel_rfl
theorem fnOk62 : fnOk Try.prog 62 = true := by kernel_rfl
theorem fnOk66 : fnOk Try.prog 66 = true := by kernel_rfl
theorem fnOk67 : fnOk Try.prog 67 = true := by kernel_rfl
theorem fnOk79 : fnOk Try.prog 79 = true := by kernel_rfl
theorem fin0_dWrite_ok {P : Prop} (h : P := by first | (rw [write_bad1 (by assumption)] <;> rfl) | (rw [write_bad2 (by assumption) (by assumption)] <;> rfl) | (rw [write_go (by assumption) (by assumption), write_off hp hn (by omega) (by assumption)] <;> rfl) | (rw [write_go (by assumption) (by assumption), write_end hp (by omega)] <;> rfl)) : P := h
theorem dWrite_ok (W : World) {m0 : Mem} (hm : mle (m0) (wm W)) {g0 : Nat} {d0 : DdiskDisk} (h0 : Ow (.ptr TdiskDisk) m0 [.pointer (some ⟨g0, 0, none⟩)] (g0, d0)) (d1 : Int) (h1 : inK .i64 d1) {v2 : Value} {d2 : List UInt8} (h2 : Rd (.sl .byte) (mout (wm W) (m0)) [v2] d2) (e0 : okD d0) (e1 : wD d0 + 3 * d2.length ≤ 1000000000000) : CallR Try.prog 57 [.pointer (some ⟨g0, 0, none⟩), .int .i64 d1, v2] W (m0) (fun v m' => v = .int .i64 ((dWrite d0 d1 d2).2) ∧ Ow (.ptr TdiskDisk) m' [.pointer (some ⟨g0, 0, none⟩)] (g0, (dWrite d0 d1 d2).1)) := by
  have hok0 := e0; obtain ⟨hg, hfu, hst⟩ := e0
  have h1' := h1; simp only [inK] at h1'
  obtain ⟨A2, c2, rfl, l2, k2⟩ := h2.slice
  simp only [maxLen] at k2
  refine CallR.ofB (n := 44) hm Try.func57 rfl rfl rfl ?_
  refine VC.rs ?_
  refine VO.as ?_
  refine VO.k4 0 1 2 6 ?_
  refine VC.seq ?_
  refine VC.rs ?_
  refine VO.mv ?_
  refine VO.call 1 rfl fnOk59 rfl rfl (fun W hW => dWrong_ok W (hW.at (i := 1) rfl) h0) (fun v1 m1 hv1 => ?_)
  obtain ⟨rfl, w1_0⟩ := hv1
  refine VO.as ?_
  refine VO.k5 0 1 2 6 7 ?_
  refine VC.rs ?_
  refine VO.mv ?_
  refine VO.y rfl (.neq rfl rfl) ?_
  refine VO.kp [1, 0] [(1, m1), (0, mout (wm W) (m0))] ?_
  refine VO.k6 0 1 2 6 7 12 ?_
  refine VC.cond rfl (fun hc2 => ?_) (fun hc2 => ?_)
  · -- T
    refine VC.rs ?_
    refine VO.mv ?_
    refine VO.as ?_
    refine VO.k6 0 1 2 6 7 12 ?_
    refine VC.ret ?_
    refine outR ?_
    refine ⟨_, _, res_run (rs := [.tmp 6]) rfl (.tmp rfl .nil), fun W_ hI => out_of (l := [m1]) hI [1] rfl rfl (mle_refl _) (fun hS_ => ?_)⟩
    dsimp only [packV]
    have hm0_ : ((dWrite d0 d1 d2).1 : DdiskDisk) = d0 := by first | rfl | (exact fin0_dWrite_ok)
    refine ⟨?_, ?_⟩
    rotate_left
    · rw [hm0_]; exact (Ow.up w1_0 (hS_.1 _ (.head _)))
    all_goals (first | rfl | (exact fin0_dWrite_ok))
  · -- F
    refine VC.skip ?_
    refine outN ?_
    refine VC.seq ?_
    refine VC.rs ?_
    refine VO.mv ?_
    refine VO.callN 103 rfl fnOk66 rfl (fun W hW => dIs_ok W d1 bdk) (fun v3 m3 hv3 => ?_)
    subst hv3
    refine VO.y rfl (.notD rfl) ?_
    refine VO.k7 0 1 2 6 7 12 16 ?_
    refine VC.cond rfl (fun hc4 => ?_) (fun hc4 => ?_)
    · -- FT
      refine VC.rs ?_
      refine VO.as ?_
      refine VO.k7 0 1 2 6 7 12 16 ?_
      refine VC.ret ?_
      refine outR ?_
      refine ⟨_, _, res_run (rs := [.tmp 6]) rfl (.tmp rfl .nil), fun W_ hI => out_of (l := [m1]) hI [1] rfl rfl (mle_refl _) (fun hS_ => ?_)⟩
      dsimp only [packV]
      have hm0_ : ((dWrite d0 d1 d2).1 : DdiskDisk) = d0 := by first | rfl | (exact fin0_dWrite_ok)
      refine ⟨?_, ?_⟩
      rotate_left
      · rw [hm0_]; exact (Ow.up w1_0 (hS_.1 _ (.head _)))
      all_goals (first | rfl | (exact fin0_dWrite_ok))
    · -- FF
      refine VC.skip ?_
      refine outN ?_
      refine VC.seq ?_
      refine VC.block ?_
      refine VC.loop (G := DdiskDisk × Mem × (List UInt8) × (Option Addr) × Nat × Nat) (fun g => [(2, Value.slice (g.2.2.2.1) ((g.2.2.1).length) ((g.2.2.2.2.1))), (0, Value.pointer (some ⟨g0, 0, none⟩)), (1, Value.int .i64 (d1)), (7, Value.int .i64 (wrongD d0)), (12, Value.bool (decide (¬ (wrongD d0) = 0))), (16, Value.bool (decide (¬ (inF d1))))]) (fun g => [(1, (g.2.1)), (0, mout (wm W) (m0))]) (fun g => (writeGo d2.length d0 d1 d2 = writeGo (g.2.2.2.2.2) (g.1) d1 (g.2.2.1)) ∧ ((g.2.2.1).length ≤ (g.2.2.2.2.2)) ∧ (okD (g.1)) ∧ (wD (g.1) + 3 * (g.2.2.1).length ≤ 1000000000000) ∧ (Rd (.sl .byte) (mout (wm W) (m0)) [.slice (g.2.2.2.1) (g.2.2.1).length (g.2.2.2.2.1)] (g.2.2.1)) ∧ (Ow (.ptr TdiskDisk) (g.2.1) [.pointer (some ⟨g0, 0, none⟩)] (g0, (g.1)))) (fun g => (g.2.2.1).length) (d0, m1, d2, A2, c2, d2.length) (⟨by rfl, by (dsimp only; omega), by exact hok0, by (dsimp only; omega), h2, w1_0⟩) ⟨⟨rfl, rfl, rfl, rfl, rfl, rfl, trivial⟩, fun _ h => h.sub [1, 0]⟩ ?_
      rintro ⟨d, d_m, b, b_A, b_c, n⟩ ⟨hp, hn, hok, hw, h_b, h_d⟩
      replace hp : writeGo d2.length d0 d1 d2 = writeGo n d d1 b := hp
      replace hn : b.length ≤ n := hn
      replace hok : okD d := hok
      replace hw : wD d + 3 * b.length ≤ 1000000000000 := hw
      replace h_b : Rd (.sl .byte) (mout (wm W) (m0)) [.slice b_A b.length b_c] b := h_b
      replace h_d : Ow (.ptr TdiskDisk) d_m [.pointer (some ⟨g0, 0, none⟩)] (g0, d) := h_d
      show VC _ _ _ _ _ [(2, Value.slice b_A (b.length) (b_c)), (0, Value.pointer (some ⟨g0, 0, none⟩)), (1, Value.int .i64 (d1)), (7, Value.int .i64 (wrongD d0)), (12, Value.bool (decide (¬ (wrongD d0) = 0))), (16, Value.bool (decide (¬ (inF d1))))] [(1, d_m), (0, mout (wm W) (m0))]
      have l_b : b.length ≤ b_c := by obtain ⟨_, _, he, hl, _⟩ := h_b.slice; simp only [Value.slice.injEq] at he; omega
      have k_b : b_c ≤ 9223372036854775807 := by obtain ⟨_, _, he, _, hl⟩ := h_b.slice; simp only [Value.slice.injEq, maxLen] at he hl; omega
      refine VC.seq ?_
      refine VC.rs ?_
      refine VO.mv ?_
      refine VO.y rfl (.lenS rfl tsl22) ?_
      refine VO.y rfl (.gtr rfl rfl) ?_
      refine VO.k7 0 1 2 7 12 16 19 ?_
      refine VC.cond rfl (fun hc5 => ?_) (fun hc5 => ?_)
      · -- FFT
        refine VC.skip ?_
        refine outN ?_
        refine VC.block ?_
        refine VC.seq ?_
        refine VC.rs ?_
        refine VO.mv ?_
        refine VO.call 1 rfl fnOk79 rfl rfl (fun W hW => dBurn_ok W (hW.at (i := 1) rfl) h_d (by assumption) bd) (fun v6 m6 hv6 => ?_)
        obtain ⟨rfl, w6_0⟩ := hv6
        have hfa7 := (burn_ok (show okD d by assumption))
        have hfa8 := (burn_w (show okD d by assumption))
        have hfa9 := (len_w (burnD d).1)
        refine VO.y rfl (.notD rfl) ?_
        refine VO.kp [1, 0] [(1, m6), (0, mout (wm W) (m0))] ?_
        refine VO.k8 0 1 2 7 12 16 19 22 ?_
        refine VC.cond rfl (fun hc10 => ?_) (fun hc10 => ?_)
        · -- FFTT
          refine VC.rs ?_
          refine VO.as ?_
          refine VO.k9 0 1 2 6 7 12 16 19 22 ?_
          refine VC.ret ?_
          refine outR ?_
          refine outBR ?_
          refine outR ?_
          refine outBR ?_
          refine outR ?_
          refine ⟨_, _, res_run (rs := [.tmp 6]) rfl (.tmp rfl .nil), fun W_ hI => out_of (l := [m6]) hI [1] rfl rfl (mle_refl _) (fun hS_ => ?_)⟩
          dsimp only [packV]
          have hm0_ : ((dWrite d0 d1 d2).1 : DdiskDisk) = (burnD d).1 := by first | rfl | (exact fin0_dWrite_ok)
          refine ⟨?_, ?_⟩
          rotate_left
          · rw [hm0_]; exact (Ow.up w6_0 (hS_.1 _ (.head _)))
          all_goals (first | rfl | (exact fin0_dWrite_ok))
        · -- FFTF
          refine VC.skip ?_
          refine outN ?_
          refine VC.rs ?_
          refine VO.mv ?_
          refine VO.y rfl (.lenS rfl tsl22) ?_
          refine VO.y rfl (.minM rfl rfl) ?_
          refine VO.as ?_
          refine VO.k9 0 1 2 7 8 12 16 19 22 ?_
          refine VC.seq ?_
          obtain ⟨q11_E, q11_A5, q11_c5, q11_A6, q11_c6, q11_A7, q11_c7, q11_A8, q11_c8, q11_A9, q11_c9, q11_n5, q11_n6, q11_n7, q11_n8, q11_n9, _, q11_S, q11_3, q11_4, q11_5, q11_6, q11_7, q11_8, q11_9⟩ := openP_diskDisk (x0 := ((burnD d).1).1) (x1 := ((burnD d).1).2.1) (x2 := ((burnD d).1).2.2.1) (x3 := ((burnD d).1).2.2.2.1) (x4 := ((burnD d).1).2.2.2.2.1) (x5 := (((burnD d).1).2.2.2.2.2.1).1) (x6 := (((burnD d).1).2.2.2.2.2.1).2.1) (x7 := (((burnD d).1).2.2.2.2.2.1).2.2.1) (x8 := (((burnD d).1).2.2.2.2.2.1).2.2.2) (x9 := ((burnD d).1).2.2.2.2.2.2) w6_0
          simp only [inK] at q11_3
          simp only [inK] at q11_4
          have q11_r5 := q11_5.rm
          have q11_r6 := q11_6.rm
          have q11_r7 := q11_7.rm
          have q11_r8 := q11_8.rm
          have q11_r9 := q11_9.rm
          refine VC.inv _ (fun _ h => h.parts (i := 1) rfl q11_S [117, 112, 113, 114, 115, 116]) ?_
          refine VC.regD _ 13 [(0, true), (1, true), (2, true), (3, true), (4, true), (5, true), (6, true), (7, true), (8, true), (9, false), (10, true), (11, false), (12, false)] follows (by kernel_rfl) (fun _ h => h.sub [117, 112, 113, 114, 115, 0]) ?_
          refine VD.y rfl rfl (.inl rfl) (.mv rfl) ?_
          refine VD.y rfl rfl (.inl rfl) (.mv rfl) ?_
          refine VD.y rfl rfl (.inl rfl) (.nilp rfl) ?_
          refine VD.y rfl rfl (.inl rfl) (.fa rfl tst65 rfl) ?_
          refine VD.y rfl rfl (.inl rfl) (.ld1 117 rfl tk63 rfl (cellsAt_one rfl rfl)) ?_
          refine VD.y rfl rfl (.inl rfl) (.mv rfl) ?_
          refine VD.y rfl rfl (.inl rfl) (.mv rfl) ?_
          refine VD.y rfl rfl (.inl rfl) (.mv rfl) ?_
          have hs18 := h_b.pre (j := ((min ((b.length : Nat) : Int) 64).toNat)) bd
          refine VD.y rfl rfl (.inl rfl) (.slHI ((min ((b.length : Nat) : Int) 64).toNat) rfl rfl tsl22 bd bd) ?_
          refine VD.inv _ (fun _ h => h.nilc 120) ?_
          obtain ⟨mo19, cs19, hM19, hA19, hC19⟩ := (OwnL.nil .byte mnil mnil)
          obtain ⟨all19, hS19, hR19⟩ := Rd.srcI (P := Try.prog) (hs18) Try.underlying22
          refine VD.app 120 rfl rfl rfl rfl tsl22 tz5 rfl rfl hM19 hA19 (hS19 _ 0 rfl) hR19.nice bdm bd (by decide) (fun _ _ h => h.sub [117, 112, 113, 114, 115, 0]) (fun v19 m19 hN19 => ?_)
          have ho19 : OwnL .byte m19 mnil v19 ((b).take ((min ((b.length : Nat) : Int) 64).toNat)) := OwnL.more hC19 hN19 (All2c.mono hR19 fun _ _ h => Rd.flat rfl h _)
          obtain ⟨A19, c19, rfl, l19, k19⟩ := ho19.slice
          simp only [maxLen] at k19
          refine VD.y rfl rfl (.inl rfl) (.bst (cs := [Value.int .i64 (0), Value.int .i64 (d1), Value.slice A19 (((b).take ((min ((b.length : Nat) : Int) 64).toNat)).length) (c19), Value.int .i64 (0)]) rfl tst98 tz98 rfl) ?_
          refine VD.bsl (cs := [Value.int .i64 (0), Value.int .i64 (d1), Value.slice A19 (((b).take ((min ((b.length : Nat) : Int) 64).toNat)).length) (c19), Value.int .i64 (0)]) 122 rfl rfl rfl tsl63 tz98 rfl rfl (fun _ h => h.sub [117, 112, 113, 114, 115, 0]) (fun g21 => ?_)
          refine VD.appO (e := Tdiskstep) 116 120 122 rfl rfl rfl rfl tsl63 tz98 rfl rfl rfl rfl q11_9 (mkO_diskstep 0 d1 ((b).take ((min ((b.length : Nat) : Int) 64).toNat)) 0 (Seps.one (mle_refl _)) bdk bdk (OwnL.ow ho19 rfl) bdk) Try.underlying63 (cellsAt_one rfl rfl) bdm bd (by decide) (fun _ _ h => h.sub [117, 112, 113, 114, 115, 0]) (fun v23 m23 ho23 => ?_)
          obtain ⟨A23, c23, rfl, l23, k23⟩ := ho23.slice
          simp only [maxLen] at k23
          refine VD.nil rfl ?_ rfl
          refine VO.y rfl (.nilp rfl) ?_
          refine VO.y rfl (.fa rfl tst65 rfl) ?_
          refine VO.store (k := 1) 117 rfl rfl (.inr ⟨tk63, rfl⟩) rfl rfl rfl rfl rfl ?_
          refine VO.clsP 124 [117, 112, 113, 114, 115, 116] rfl (fun hg24 => (mkP_diskDisk (((burnD d).1).1) (((burnD d).1).2.1) (((burnD d).1).2.2.1) (((burnD d).1).2.2.2.1) (((burnD d).1).2.2.2.2.1) ((((burnD d).1).2.2.2.2.2.1).1) ((((burnD d).1).2.2.2.2.2.1).2.1) ((((burnD d).1).2.2.2.2.2.1).2.2.1) ((((burnD d).1).2.2.2.2.2.1).2.2.2) ((((burnD d).1).2.2.2.2.2.2) ++ [((0, d1, (b).take ((min ((b.length : Nat) : Int) 64).toNat), 0) : Ddiskstep)]) hg24 bdk bdk (OwnL.ow (Ow.ownl q11_5 rfl mnil) rfl) (OwnL.ow (Ow.ownl q11_6 rfl mnil) rfl) (OwnL.ow (Ow.ownl q11_7 rfl mnil) rfl) (OwnL.ow (Ow.ownl q11_8 rfl mnil) rfl) ho23)) (fun mc24 ho24 => ?_)
          refine VO.k9 0 1 2 7 8 12 16 19 22 ?_
          refine outN ?_
          refine VC.reg ?_
          refine VO.mv ?_
          refine VO.mv ?_
          obtain ⟨A25, hA25, hs25⟩ := h_b.drop 1 ((min ((b.length : Nat) : Int) 64).toNat) rfl bd
          refine VO.y rfl (.slLI ((min ((b.length : Nat) : Int) 64).toNat) A25 rfl rfl tsl22 bd hA25 bd) ?_
          refine VO.as ?_
          refine VO.kp [124, 0] [(124, mc24), (0, mout (wm W) (m0))] ?_
          refine VO.k9 0 1 2 7 8 12 16 19 22 ?_
          refine outBN ?_
          have hrl26 : b.length - ((min ((b.length : Nat) : Int) 64).toNat) = (b.drop ((min ((b.length : Nat) : Int) 64).toNat)).length := by simp only [List.length_drop, List.length_take]; try omega
          rw [hrl26]
          exact outN ⟨⟨(((burnD d).1).1, ((burnD d).1).2.1, ((burnD d).1).2.2.1, ((burnD d).1).2.2.2.1, ((burnD d).1).2.2.2.2.1, (((burnD d).1).2.2.2.2.2.1), (((burnD d).1).2.2.2.2.2.2) ++ [((0, d1, (b).take ((min ((b.length : Nat) : Int) 64).toNat), 0) : Ddiskstep)]), mc24, b.drop ((min ((b.length : Nat) : Int) 64).toNat), A25, b_c - ((min ((b.length : Nat) : Int) 64).toNat), n - 1⟩, ⟨by exact write_step hp hn (by omega) (Decidable.not_not.1 ‹¬ ¬ (burnD d).2 = true›) (by omega), by (simp only [List.length_drop]; omega), by exact step_ok hok (Decidable.not_not.1 ‹¬ ¬ inF d1›) (by omega) (by omega), by exact Nat.le_trans (step_w (f := d1) (b := b) (m := (min ((b.length : Nat) : Int) 64).toNat) hok (by omega) (by omega)) hw, (Rd.relen hs25 rfl), ho24⟩, by (simp only [List.length_drop]; omega), ⟨⟨rfl, rfl, rfl, rfl, rfl, rfl, trivial⟩, fun _ h => Inv.sub (Inv.num h 124 1 rfl) [1, 0]⟩⟩
      · -- FFF
        refine VC.exit ?_
        refine outE ?_
        refine outE ?_
        refine outBB ?_
        refine outN ?_
        refine VC.rs ?_
        refine VO.as ?_
        refine VO.kp [1, 0] [(1, d_m), (0, mout (wm W) (m0))] ?_
        refine VO.k8 0 1 2 6 7 12 16 19 ?_
        refine VC.ret ?_
        refine ⟨_, _, res_run (rs := [.tmp 6]) rfl (.tmp rfl .nil), fun W_ hI => out_of (l := [d_m]) hI [1] rfl rfl (mle_refl _) (fun hS_ => ?_)⟩
        dsimp only [packV]
        have hm0_ : ((dWrite d0 d1 d2).1 : DdiskDisk) = d := by first | rfl | (exact fin0_dWrite_ok)
        refine ⟨?_, ?_⟩
        rotate_left
        · rw [hm0_]; exact (Ow.up h_d (hS_.1 _ (.head _)))
        all_goals (first | rfl | (exact fin0_dWrite_ok))
theorem fin0_dCut_ok {P : Prop} (h : P := by first | (rw [cut_bad1 (by assumption)] <;> rfl) | (rw [cut_bad2 (by assumption) (.inl (by assumption))] <;> rfl) | (rw [cut_bad2 (by assumption) (.inr (.inl (by assumption)))] <;> rfl) | (rw [cut_bad2 (by assumption) (.inr (.inr (by assumption)))] <;> rfl) | (rw [cut_go (by assumption) (by assumption) (by assumption) (by assumption) (by assumption)] <;> rfl) | (rw [cut_off (by assumption) (by assumption) (by assumption) (by assumption) (by assumption)] <;> rfl)) : P := h
theorem dCut_ok (W : World) {m0 : Mem} (hm : mle (m0) (wm W)) {g0 : Nat} {d0 : DdiskDisk} (h0 : Ow (.ptr TdiskDisk) m0 [.pointer (some ⟨g0, 0, none⟩)] (g0, d0)) (d1 : Int) (h1 : inK .i64 d1) (d2 : Int) (h2 : inK .i64 d2) (e0 : okD d0) (e1 : wD d0 ≤ 1000000000000) : CallR Try.prog 50 [.pointer (some ⟨g0, 0, none⟩), .int .i64 d1, .int .i64 d2] W (m0) (fun v m' => v = .int .i64 ((dCut d0 d1 d2).2) ∧ Ow (.ptr TdiskDisk) m' [.pointer (some ⟨g0, 0, none⟩)] (g0, (dCut d0 d1 d2).1)) := by
  have h1' := h1; simp only [inK] at h1'
  have h2' := h2; simp only [inK] at h2'
  refine CallR.ofB (n := 43) hm Try.func50 rfl rfl rfl ?_
  refine VC.rs ?_
  refine VO.as ?_
  refine VO.k4 0 1 2 6 ?_
  refine VC.seq ?_
  refine VC.rs ?_
  refine VO.mv ?_
  refine VO.call 1 rfl fnOk59 rfl rfl (fun W hW => dWrong_ok W (hW.at (i := 1) rfl) h0) (fun v1 m1 hv1 => ?_)
  obtain ⟨rfl, w1_0⟩ := hv1
  refine VO.as ?_
  refine VO.k5 0 1 2 6 7 ?_
  refine VC.rs ?_
  refine VO.mv ?_
  refine VO.y rfl (.neq rfl rfl) ?_
  refine VO.kp [1, 0] [(1, m1), (0, mout (wm W) (m0))] ?_
  refine VO.k6 0 1 2 6 7 11 ?_
  refine VC.cond rfl (fun hc2 => ?_) (fun hc2 => ?_)
  · -- T
    refine VC.rs ?_
    refine VO.mv ?_
    refine VO.as ?_
    refine VO.k6 0 1 2 6 7 11 ?_
    refine VC.ret ?_
    refine outR ?_
    refine ⟨_, _, res_run (rs := [.tmp 6]) rfl (.tmp rfl .nil), fun W_ hI => out_of (l := [m1]) hI [1] rfl rfl (mle_refl _) (fun hS_ => ?_)⟩
    dsimp only [packV]
    have hm0_ : ((dCut d0 d1 d2).1 : DdiskDisk) = d0 := by first | rfl | (exact fin0_dCut_ok)
    refine ⟨?_, ?_⟩
    rotate_left
    · rw [hm0_]; exact (Ow.up w1_0 (hS_.1 _ (.head _)))
    all_goals (first | rfl | (exact fin0_dCut_ok))
  · -- F
    refine VC.skip ?_
    refine outN ?_
    refine VC.seq ?_
    refine VC.rs ?_
    refine VO.mv ?_
    refine VO.callN 103 rfl fnOk66 rfl (fun W hW => dIs_ok W d1 bdk) (fun v3 m3 hv3 => ?_)
    subst hv3
    refine VO.y rfl (.notD rfl) ?_
    refine VO.mv ?_
    refine VO.dec (t := 16) rfl (fun hc4 => ?_) (fun hc4 => ?_)
    · -- FT
      refine VO.gN ?_
      refine VO.gN ?_
      refine VO.y rfl (.pT rfl rfl) ?_
      refine VO.mv ?_
      refine VO.gN ?_
      refine VO.gN ?_
      refine VO.gN ?_
      refine VO.gN ?_
      refine VO.gN ?_
      refine VO.gN ?_
      refine VO.y rfl (.pT rfl rfl) ?_
      refine VO.k7 0 1 2 6 7 11 27 ?_
      refine VC.condT rfl ?_
      refine VC.rs ?_
      refine VO.as ?_
      refine VO.k7 0 1 2 6 7 11 27 ?_
      refine VC.ret ?_
      refine outR ?_
      refine ⟨_, _, res_run (rs := [.tmp 6]) rfl (.tmp rfl .nil), fun W_ hI => out_of (l := [m1]) hI [1] rfl rfl (mle_refl _) (fun hS_ => ?_)⟩
      dsimp only [packV]
      have hm0_ : ((dCut d0 d1 d2).1 : DdiskDisk) = d0 := by first | rfl | (exact fin0_dCut_ok)
      refine ⟨?_, ?_⟩
      rotate_left
      · rw [hm0_]; exact (Ow.up w1_0 (hS_.1 _ (.head _)))
      all_goals (first | rfl | (exact fin0_dCut_ok))
    · -- FF
      refine VO.gy rfl ⟨_, rfl, rfl⟩ (.mv rfl) ?_
      refine VO.gy rfl ⟨_, rfl, rfl⟩ (.lss rfl rfl) ?_
      refine VO.y rfl (.pF rfl rfl) ?_
      refine VO.mv ?_
      refine VO.dec (t := 20) rfl (fun hc5 => ?_) (fun hc5 => ?_)
      · -- FFT
        refine VO.gN ?_
        refine VO.gN ?_
        refine VO.gN ?_
        refine VO.gN ?_
        refine VO.gN ?_
        refine VO.gN ?_
        refine VO.y rfl (.pT rfl rfl) ?_
        refine VO.k7 0 1 2 6 7 11 27 ?_
        refine VC.condT rfl ?_
        refine VC.rs ?_
        refine VO.as ?_
        refine VO.k7 0 1 2 6 7 11 27 ?_
        refine VC.ret ?_
        refine outR ?_
        refine ⟨_, _, res_run (rs := [.tmp 6]) rfl (.tmp rfl .nil), fun W_ hI => out_of (l := [m1]) hI [1] rfl rfl (mle_refl _) (fun hS_ => ?_)⟩
        dsimp only [packV]
        have hm0_ : ((dCut d0 d1 d2).1 : DdiskDisk) = d0 := by first | rfl | (exact fin0_dCut_ok)
        refine ⟨?_, ?_⟩
        rotate_left
        · rw [hm0_]; exact (Ow.up w1_0 (hS_.1 _ (.head _)))
        all_goals (first | rfl | (exact fin0_dCut_ok))
      · -- FFF
        refine VO.gy rfl ⟨_, rfl, rfl⟩ (.mv rfl) ?_
        refine VO.gy rfl ⟨_, rfl, rfl⟩ (.mv rfl) ?_
        refine VO.gy rfl ⟨_, rfl, rfl⟩ (.mv rfl) ?_
        refine VO.gcall 1 rfl ⟨_, rfl, rfl⟩ fnOk67 rfl rfl (fun W hW => dHeld_ok W (hW.at (i := 1) rfl) w1_0 d1 bdk (by assumption) bd (by first | assumption | (apply Decidable.not_not.1; assumption))) (fun v6 m6 hv6 => ?_)
        obtain ⟨s6_0, p6_0, p6_1, rfl, hS6, f6_0, w6_0⟩ := hv6
        refine VO.inv _ (fun _ h => h.parts (i := 1) rfl hS6 [107, 108]) ?_
        have hfa9 := heldB_size d0.2.2.2.2.2.1 d0.2.2.2.2.2.2 d1
        obtain ⟨A6_0, c6_0, eq6_0, l6_0, k6_0⟩ := f6_0.slice
        subst eq6_0
        simp only [maxLen] at k6_0
        refine VO.gy rfl ⟨_, rfl, rfl⟩ (.lenS rfl tsl22) ?_
        refine VO.gy rfl ⟨_, rfl, rfl⟩ (.gtr rfl rfl) ?_
        refine VO.y rfl (.pF rfl rfl) ?_
        refine VO.k7 0 1 2 6 7 11 27 ?_
        refine VC.cond rfl (fun hc10 => ?_) (fun hc10 => ?_)
        · -- FFFT
          refine VC.rs ?_
          refine VO.as ?_
          refine VO.k7 0 1 2 6 7 11 27 ?_
          refine VC.ret ?_
          refine outR ?_
          refine ⟨_, _, res_run (rs := [.tmp 6]) rfl (.tmp rfl .nil), fun W_ hI => out_of (l := [p6_1]) hI [108] rfl rfl (mle_refl _) (fun hS_ => ?_)⟩
          dsimp only [packV]
          have hm0_ : ((dCut d0 d1 d2).1 : DdiskDisk) = d0 := by first | rfl | (exact fin0_dCut_ok)
          refine ⟨?_, ?_⟩
          rotate_left
          · rw [hm0_]; exact (Ow.up w6_0 (hS_.1 _ (.head _)))
          all_goals (first | rfl | (exact fin0_dCut_ok))
        · -- FFFF
          refine VC.skip ?_
          refine outN ?_
          refine VC.seq ?_
          refine VC.rs ?_
          refine VO.mv ?_
          refine VO.call 108 rfl fnOk79 rfl rfl (fun W hW => dBurn_ok W (hW.at (i := 108) rfl) w6_0 (by assumption) bd) (fun v11 m11 hv11 => ?_)
          obtain ⟨rfl, w11_0⟩ := hv11
          have hfa12 := (burn_ok (show okD d0 by assumption))
          have hfa13 := (burn_w (show okD d0 by assumption))
          have hfa14 := (len_w (burnD d0).1)
          refine VO.y rfl (.notD rfl) ?_
          refine VO.k8 0 1 2 6 7 11 27 30 ?_
          refine VC.cond rfl (fun hc15 => ?_) (fun hc15 => ?_)
          · -- FFFFT
            refine VC.rs ?_
            refine VO.as ?_
            refine VO.kp [108, 0] [(108, m11), (0, mout (wm W) (m0))] ?_
            refine VO.k8 0 1 2 6 7 11 27 30 ?_
            refine VC.ret ?_
            refine outR ?_
            refine ⟨_, _, res_run (rs := [.tmp 6]) rfl (.tmp rfl .nil), fun W_ hI => out_of (l := [m11]) hI [108] rfl rfl (mle_refl _) (fun hS_ => ?_)⟩
            dsimp only [packV]
            have hm0_ : ((dCut d0 d1 d2).1 : DdiskDisk) = (burnD d0).1 := by first | rfl | (exact fin0_dCut_ok)
            refine ⟨?_, ?_⟩
            rotate_left
            · rw [hm0_]; exact (Ow.up w11_0 (hS_.1 _ (.head _)))
            all_goals (first | rfl | (exact fin0_dCut_ok))
          · -- FFFFF
            refine VC.skip ?_
            refine outN ?_
            refine VC.rs ?_
            refine VO.mv ?_
            refine VO.mv ?_
            refine VO.y rfl (.nilp rfl) ?_
            refine VO.y rfl (.fa rfl tst65 rfl) ?_
            obtain ⟨q16_E, q16_A5, q16_c5, q16_A6, q16_c6, q16_A7, q16_c7, q16_A8, q16_c8, q16_A9, q16_c9, q16_n5, q16_n6, q16_n7, q16_n8, q16_n9, _, q16_S, q16_3, q16_4, q16_5, q16_6, q16_7, q16_8, q16_9⟩ := openP_diskDisk (x0 := ((burnD d0).1).1) (x1 := ((burnD d0).1).2.1) (x2 := ((burnD d0).1).2.2.1) (x3 := ((burnD d0).1).2.2.2.1) (x4 := ((burnD d0).1).2.2.2.2.1) (x5 := (((burnD d0).1).2.2.2.2.2.1).1) (x6 := (((burnD d0).1).2.2.2.2.2.1).2.1) (x7 := (((burnD d0).1).2.2.2.2.2.1).2.2.1) (x8 := (((burnD d0).1).2.2.2.2.2.1).2.2.2) (x9 := ((burnD d0).1).2.2.2.2.2.2) w11_0
            simp only [inK] at q16_3
            simp only [inK] at q16_4
            have q16_r5 := q16_5.rm
            have q16_r6 := q16_6.rm
            have q16_r7 := q16_7.rm
            have q16_r8 := q16_8.rm
            have q16_r9 := q16_9.rm
            refine VO.inv _ (fun _ h => h.parts (i := 108) rfl q16_S [122, 117, 118, 119, 120, 121]) ?_
            refine VO.y rfl (.ld1 122 rfl tk63 rfl (cellsAt_one rfl rfl)) ?_
            refine VO.mv ?_
            refine VO.mv ?_
            refine VO.y rfl (.bst (cs := [Value.int .i64 (1), Value.int .i64 (d1), Value.slice none (0) (0), Value.int .i64 (d2)]) rfl tst98 tz98 rfl) ?_
            refine VO.bsl (cs := [Value.int .i64 (1), Value.int .i64 (d1), Value.slice none (0) (0), Value.int .i64 (d2)]) 124 rfl rfl tsl63 tz98 rfl rfl (fun g23 => ?_)
            refine VO.inv ((126, mnil) :: _) (fun _ h => h.nilc 126) ?_
            refine VO.appO (e := Tdiskstep) 121 126 124 rfl rfl rfl tsl63 tz98 rfl rfl rfl rfl q16_9 (mkO_diskstep 1 d1 [] d2 (Seps.nilAt 0 (Seps.nil _)) bdk bdk (Ow.nil _ _) bdk) Try.underlying63 (cellsAt_one rfl rfl) bdm bd (by decide) (fun v25 m25 ho25 => ?_)
            obtain ⟨A25, c25, rfl, l25, k25⟩ := ho25.slice
            simp only [maxLen] at k25
            refine VO.y rfl (.nilp rfl) ?_
            refine VO.y rfl (.fa rfl tst65 rfl) ?_
            refine VO.store (k := 1) 122 rfl rfl (.inr ⟨tk63, rfl⟩) rfl rfl rfl rfl rfl ?_
            refine VO.clsP 127 [122, 117, 118, 119, 120, 121] rfl (fun hg27 => (mkP_diskDisk (((burnD d0).1).1) (((burnD d0).1).2.1) (((burnD d0).1).2.2.1) (((burnD d0).1).2.2.2.1) (((burnD d0).1).2.2.2.2.1) ((((burnD d0).1).2.2.2.2.2.1).1) ((((burnD d0).1).2.2.2.2.2.1).2.1) ((((burnD d0).1).2.2.2.2.2.1).2.2.1) ((((burnD d0).1).2.2.2.2.2.1).2.2.2) ((((burnD d0).1).2.2.2.2.2.2) ++ [((1, d1, [], d2) : Ddiskstep)]) hg27 bdk bdk (OwnL.ow (Ow.ownl q16_5 rfl mnil) rfl) (OwnL.ow (Ow.ownl q16_6 rfl mnil) rfl) (OwnL.ow (Ow.ownl q16_7 rfl mnil) rfl) (OwnL.ow (Ow.ownl q16_8 rfl mnil) rfl) ho25)) (fun mc27 ho27 => ?_)
            refine VO.kp [127, 0] [(127, mc27), (0, mout (wm W) (m0))] ?_
            refine VO.k8 0 1 2 6 7 11 27 30 ?_
            refine VC.rs ?_
            refine VO.as ?_
            refine VO.k8 0 1 2 6 7 11 27 30 ?_
            refine VC.ret ?_
            refine ⟨_, _, res_run (rs := [.tmp 6]) rfl (.tmp rfl .nil), fun W_ hI => out_of (l := [mc27]) hI [127] rfl rfl (mle_refl _) (fun hS_ => ?_)⟩
            dsimp only [packV]
            have hm0_ : ((dCut d0 d1 d2).1 : DdiskDisk) = (((burnD d0).1).1, ((burnD d0).1).2.1, ((burnD d0).1).2.2.1, ((burnD d0).1).2.2.2.1, ((burnD d0).1).2.2.2.2.1, (((burnD d0).1).2.2.2.2.2.1), (((burnD d0).1).2.2.2.2.2.2) ++ [((1, d1, [], d2) : Ddiskstep)]) := by first | rfl | (exact fin0_dCut_ok)
            refine ⟨?_, ?_⟩
            rotate_left
            · rw [hm0_]; exact (Ow.up ho27 (hS_.1 _ (.head _)))
            all_goals (first | rfl | (exact fin0_dCut_ok))
theorem dSync_ok (W : World) {m0 : Mem} (hm : mle (m0) (wm W)) {g0 : Nat} {d0 : DdiskDisk} (h0 : Ow (.ptr TdiskDisk) m0 [.pointer (some ⟨g0, 0, none⟩)] (g0, d0)) (e0 : okD d0) (e1 : wD d0 ≤ 1000000000000) : CallR Try.prog 51 [.pointer (some ⟨g0, 0, none⟩)] W (m0) (fun v m' => v = .int .i64 ((dSync d0).2) ∧ Ow (.ptr TdiskDisk) m' [.pointer (some ⟨g0, 0, none⟩)] (g0, (dSync d0).1)) := by
  refine CallR.ofB (n := 19) hm Try.func51 rfl rfl rfl ?_
  refine VC.rs ?_
  refine VO.as ?_
  refine VO.k2 0 2 ?_
  refine VC.seq ?_
  refine VC.rs ?_
  refine VO.mv ?_
  refine VO.call 1 rfl fnOk59 rfl rfl (fun W hW => dWrong_ok W (hW.at (i := 1) rfl) h0) (fun v1 m1 hv1 => ?_)
  obtain ⟨rfl, w1_0⟩ := hv1
  refine VO.as ?_
  refine VO.k3 0 2 3 ?_
  refine VC.rs ?_
  refine VO.mv ?_
  refine VO.y rfl (.neq rfl rfl) ?_
  refine VO.kp [1, 0] [(1, m1), (0, mout (wm W) (m0))] ?_
  refine VO.k4 0 2 3 7 ?_
  refine VC.cond rfl (fun hc2 => ?_) (fun hc2 => ?_)
  · -- T
    refine VC.rs ?_
    refine VO.mv ?_
    refine VO.as ?_
    refine VO.k4 0 2 3 7 ?_
    refine VC.ret ?_
    refine outR ?_
    refine ⟨_, _, res_run (rs := [.tmp 2]) rfl (.tmp rfl .nil), fun W_ hI => out_of (l := [m1]) hI [1] rfl rfl (mle_refl _) (fun hS_ => ?_)⟩
    dsimp only [packV]
    have hm0_ : ((dSync d0).1 : DdiskDisk) = d0 := by first | rfl | (first | (rw [sync_bad (by assumption)] <;> rfl) | (rw [sync_off (by assumption) (by assumption)] <;> rfl) | (rw [sync_go (by assumption) (by assumption)] <;> rfl))
    refine ⟨?_, ?_⟩
    rotate_left
    · rw [hm0_]; exact (Ow.up w1_0 (hS_.1 _ (.head _)))
    all_goals (first | rfl | (first | (rw [sync_bad (by assumption)] <;> rfl) | (rw [sync_off (by assumption) (by assumption)] <;> rfl) | (rw [sync_go (by assumption) (by assumption)] <;> rfl)))
  · -- F
    refine VC.skip ?_
    refine outN ?_
    refine VC.seq ?_
    refine VC.rs ?_
    refine VO.mv ?_
    refine VO.call 1 rfl fnOk79 rfl rfl (fun W hW => dBurn_ok W (hW.at (i := 1) rfl) w1_0 (by assumption) bd) (fun v3 m3 hv3 => ?_)
    obtain ⟨rfl, w3_0⟩ := hv3
    have hfa4 := (burn_ok (show okD d0 by assumption))
    have hfa5 := (burn_w (show okD d0 by assumption))
    have hfa6 := (len_w (burnD d0).1)
    refine VO.y rfl (.notD rfl) ?_
    refine VO.k5 0 2 3 7 11 ?_
    refine VC.cond rfl (fun hc7 => ?_) (fun hc7 => ?_)
    · -- FT
      refine VC.rs ?_
      refine VO.as ?_
      refine VO.k5 0 2 3 7 11 ?_
      refine VC.ret ?_
      refine outR ?_
      refine ⟨_, _, res_run (rs := [.tmp 2]) rfl (.tmp rfl .nil), fun W_ hI => out_of (l := [m3]) hI [1] rfl rfl (mle_refl _) (fun hS_ => ?_)⟩
      dsimp only [packV]
      have hm0_ : ((dSync d0).1 : DdiskDisk) = (burnD d0).1 := by first | rfl | (first | (rw [sync_bad (by assumption)] <;> rfl) | (rw [sync_off (by assumption) (by assumption)] <;> rfl) | (rw [sync_go (by assumption) (by assumption)] <;> rfl))
      refine ⟨?_, ?_⟩
      rotate_left
      · rw [hm0_]; exact (Ow.up w3_0 (hS_.1 _ (.head _)))
      all_goals (first | rfl | (first | (rw [sync_bad (by assumption)] <;> rfl) | (rw [sync_off (by assumption) (by assumption)] <;> rfl) | (rw [sync_go (by assumption) (by assumption)] <;> rfl)))
    · -- FF
      refine VC.skip ?_
      refine outN ?_
      refine VC.rs ?_
      refine VO.mv ?_
      refine VO.mv ?_
      refine VO.y rfl (.nilp rfl) ?_
      refine VO.y rfl (.fa rfl tst65 rfl) ?_
      obtain ⟨q8_E, q8_A5, q8_c5, q8_A6, q8_c6, q8_A7, q8_c7, q8_A8, q8_c8, q8_A9, q8_c9, q8_n5, q8_n6, q8_n7, q8_n8, q8_n9, _, q8_S, q8_3, q8_4, q8_5, q8_6, q8_7, q8_8, q8_9⟩ := openP_diskDisk (x0 := ((burnD d0).1).1) (x1 := ((burnD d0).1).2.1) (x2 := ((burnD d0).1).2.2.1) (x3 := ((burnD d0).1).2.2.2.1) (x4 := ((burnD d0).1).2.2.2.2.1) (x5 := (((burnD d0).1).2.2.2.2.2.1).1) (x6 := (((burnD d0).1).2.2.2.2.2.1).2.1) (x7 := (((burnD d0).1).2.2.2.2.2.1).2.2.1) (x8 := (((burnD d0).1).2.2.2.2.2.1).2.2.2) (x9 := ((burnD d0).1).2.2.2.2.2.2) w3_0
      simp only [inK] at q8_3
      simp only [inK] at q8_4
      have q8_r5 := q8_5.rm
      have q8_r6 := q8_6.rm
      have q8_r7 := q8_7.rm
      have q8_r8 := q8_8.rm
      have q8_r9 := q8_9.rm
      refine VO.inv _ (fun _ h => h.parts (i := 1) rfl q8_S [114, 109, 110, 111, 112, 113]) ?_
      refine VO.y rfl (.ld1 114 rfl tk63 rfl (cellsAt_one rfl rfl)) ?_
      refine VO.y rfl (.lenS rfl tsl63) ?_
      refine VO.clsP 116 [114, 109, 110, 111, 112, 113] rfl (fun hg16 => (show Ow (.ptr TdiskDisk) _ _ (_, ((burnD d0).1)) from (mkP_diskDisk (((burnD d0).1).1) (((burnD d0).1).2.1) (((burnD d0).1).2.2.1) (((burnD d0).1).2.2.2.1) (((burnD d0).1).2.2.2.2.1) ((((burnD d0).1).2.2.2.2.2.1).1) ((((burnD d0).1).2.2.2.2.2.1).2.1) ((((burnD d0).1).2.2.2.2.2.1).2.2.1) ((((burnD d0).1).2.2.2.2.2.1).2.2.2) (((burnD d0).1).2.2.2.2.2.2) hg16 bdk bdk (OwnL.ow (Ow.ownl q8_5 rfl mnil) rfl) (OwnL.ow (Ow.ownl q8_6 rfl mnil) rfl) (OwnL.ow (Ow.ownl q8_7 rfl mnil) rfl) (OwnL.ow (Ow.ownl q8_8 rfl mnil) rfl) q8_9))) (fun mc16 ho16 => ?_)
      refine VO.call 116 rfl fnOk62 rfl rfl (fun W hW => dSettle_ok W (hW.at (i := 116) rfl) ho16 (((((burnD d0).1).2.2.2.2.2.2).length : Nat) : Int) bdk (by assumption) bd bd) (fun v15 m15 hv15 => ?_)
      obtain ⟨rfl, w15_0⟩ := hv15
      have hfa17 := (settle_ok (((((burnD d0).1).2.2.2.2.2.2).length : Nat) : Int).toNat (show okD ((burnD d0).1) by assumption))
      have hfa18 := (settle_w ((burnD d0).1) (((((burnD d0).1).2.2.2.2.2.2).length : Nat) : Int).toNat)
      refine VO.k5 0 2 3 7 11 ?_
      refine VC.rs ?_
      refine VO.as ?_
      refine VO.kp [116, 0] [(116, m15), (0, mout (wm W) (m0))] ?_
      refine VO.k5 0 2 3 7 11 ?_
      refine VC.ret ?_
      refine ⟨_, _, res_run (rs := [.tmp 2]) rfl (.tmp rfl .nil), fun W_ hI => out_of (l := [m15]) hI [116] rfl rfl (mle_refl _) (fun hS_ => ?_)⟩
      dsimp only [packV]
      have hm0_ : ((dSync d0).1 : DdiskDisk) = settleD ((burnD d0).1) (((((burnD d0).1).2.2.2.2.2.2).length : Nat) : Int).toNat := by first | rfl | (first | (rw [sync_bad (by assumption)] <;> rfl) | (rw [sync_off (by assumption) (by assumption)] <;> rfl) | (rw [sync_go (by assumption) (by assumption)] <;> rfl))
      refine ⟨?_, ?_⟩
      rotate_left
      · rw [hm0_]; exact (Ow.up w15_0 (hS_.1 _ (.head _)))
      all_goals (first | rfl | (first | (rw [sync_bad (by assumption)] <;> rfl) | (rw [sync_off (by assumption) (by assumption)] <;> rfl) | (rw [sync_go (by assumption) (by assumption)] <;> rfl)))
theorem dRead_ok (W : World) {m0 : Mem} (hm : mle (m0) (wm W)) {g0 : Nat} {d0 : DdiskDisk} (h0 : Ow (.ptr TdiskDisk) m0 [.pointer (some ⟨g0, 0, none⟩)] (g0, d0)) (d1 : Int) (h1 : inK .i64 d1) (e0 : okD d0) (e1 : wD d0 ≤ 1000000000000) : CallR Try.prog 36 [.pointer (some ⟨g0, 0, none⟩), .int .i64 d1] W (m0) (fun v m' => ∃ (s0 : Value), ∃ (p0 : Mem), ∃ (p1 : Mem), v = .tuple #[s0, .int .i64 ((dRead d0 d1).2)] ∧ Seps m' [p0, p1] ∧ Ow (.sl .byte) p0 [s0] ((dRead d0 d1).1) ∧ Ow (.ptr TdiskDisk) p1 [.pointer (some ⟨g0, 0, none⟩)] (g0, d0)) := by
  have h1' := h1; simp only [inK] at h1'
  refine CallR.ofB (n := 18) hm Try.func36 rfl rfl rfl ?_
  refine VC.rs ?_
  refine VO.as ?_
  refine VO.as ?_
  refine VO.k4 0 1 4 5 ?_
  refine VC.seq ?_
  refine VC.rs ?_
  refine VO.mv ?_
  refine VO.call 1 rfl fnOk59 rfl rfl (fun W hW => dWrong_ok W (hW.at (i := 1) rfl) h0) (fun v1 m1 hv1 => ?_)
  obtain ⟨rfl, w1_0⟩ := hv1
  refine VO.as ?_
  refine VO.k5 0 1 4 5 6 ?_
  refine VC.rs ?_
  refine VO.mv ?_
  refine VO.y rfl (.neq rfl rfl) ?_
  refine VO.kp [1, 0] [(1, m1), (0, mout (wm W) (m0))] ?_
  refine VO.k6 0 1 4 5 6 10 ?_
  refine VC.cond rfl (fun hc2 => ?_) (fun hc2 => ?_)
  · -- T
    refine VC.rs ?_
    refine VO.mv ?_
    refine VO.as ?_
    refine VO.as ?_
    refine VO.k6 0 1 4 5 6 10 ?_
    refine VC.ret ?_
    refine outR ?_
    refine ⟨_, _, res_run (rs := [.tmp 4, .tmp 5]) rfl (.tmp rfl (.tmp rfl .nil)), fun W_ hI => out_of (l := [m1]) hI [1] rfl rfl (mle_refl _) (fun hS_ => ?_)⟩
    dsimp only [packV]
    have he0 : ((dRead d0 d1).1 : Ty.Den (.sl .byte)) = [] := by first | rfl | (first | rfl | (simp [dRead, *]; done))
    have hm0_ : (d0 : DdiskDisk) = d0 := by first | rfl | (first | rfl | (simp [dRead, *]; done))
    refine ⟨Value.slice none (0) (0), muns [], muns [m1], ?_, ?_, ?_, ?_⟩
    rotate_left
    · exact Seps.grp (ls := [[], [m1]]) hS_
    · rw [he0]; exact (Ow.nil _ _)
    · rw [hm0_]; exact (Ow.up w1_0 ((Seps.self hS_ (List.Sublist.cons_cons _ List.Sublist.slnil)).1 _ (.head _)))
    all_goals (first | rfl | (first | rfl | (simp [dRead, *]; done)))
  · -- F
    refine VC.skip ?_
    refine outN ?_
    refine VC.seq ?_
    refine VC.rs ?_
    refine VO.mv ?_
    refine VO.callN 103 rfl fnOk66 rfl (fun W hW => dIs_ok W d1 bdk) (fun v3 m3 hv3 => ?_)
    subst hv3
    refine VO.y rfl (.notD rfl) ?_
    refine VO.k7 0 1 4 5 6 10 14 ?_
    refine VC.cond rfl (fun hc4 => ?_) (fun hc4 => ?_)
    · -- FT
      refine VC.rs ?_
      refine VO.as ?_
      refine VO.as ?_
      refine VO.k7 0 1 4 5 6 10 14 ?_
      refine VC.ret ?_
      refine outR ?_
      refine ⟨_, _, res_run (rs := [.tmp 4, .tmp 5]) rfl (.tmp rfl (.tmp rfl .nil)), fun W_ hI => out_of (l := [m1]) hI [1] rfl rfl (mle_refl _) (fun hS_ => ?_)⟩
      dsimp only [packV]
      have he0 : ((dRead d0 d1).1 : Ty.Den (.sl .byte)) = [] := by first | rfl | (first | rfl | (simp [dRead, *]; done))
      have hm0_ : (d0 : DdiskDisk) = d0 := by first | rfl | (first | rfl | (simp [dRead, *]; done))
      refine ⟨Value.slice none (0) (0), muns [], muns [m1], ?_, ?_, ?_, ?_⟩
      rotate_left
      · exact Seps.grp (ls := [[], [m1]]) hS_
      · rw [he0]; exact (Ow.nil _ _)
      · rw [hm0_]; exact (Ow.up w1_0 ((Seps.self hS_ (List.Sublist.cons_cons _ List.Sublist.slnil)).1 _ (.head _)))
      all_goals (first | rfl | (first | rfl | (simp [dRead, *]; done)))
    · -- FF
      refine VC.skip ?_
      refine outN ?_
      refine VC.rs ?_
      refine VO.mv ?_
      refine VO.mv ?_
      refine VO.call 1 rfl fnOk67 rfl rfl (fun W hW => dHeld_ok W (hW.at (i := 1) rfl) w1_0 d1 bdk (by assumption) bd (by first | assumption | (apply Decidable.not_not.1; assumption))) (fun v5 m5 hv5 => ?_)
      obtain ⟨s5_0, p5_0, p5_1, rfl, hS5, f5_0, w5_0⟩ := hv5
      refine VO.inv _ (fun _ h => h.parts (i := 1) rfl hS5 [106, 107]) ?_
      have hfa8 := heldB_size d0.2.2.2.2.2.1 d0.2.2.2.2.2.2 d1
      obtain ⟨A5_0, c5_0, eq5_0, l5_0, k5_0⟩ := f5_0.slice
      subst eq5_0
      simp only [maxLen] at k5_0
      refine VO.as ?_
      refine VO.as ?_
      refine VO.k7 0 1 4 5 6 10 14 ?_
      refine VC.ret ?_
      refine ⟨_, _, res_run (rs := [.tmp 4, .tmp 5]) rfl (.tmp rfl (.tmp rfl .nil)), fun W_ hI => out_of (l := [p5_0, p5_1]) hI [106, 107] rfl rfl (mle_refl _) (fun hS_ => ?_)⟩
      dsimp only [packV]
      have he0 : ((dRead d0 d1).1 : Ty.Den (.sl .byte)) = heldB d0.2.2.2.2.2.1 d0.2.2.2.2.2.2 d1 := by first | rfl | (first | rfl | (simp [dRead, *]; done))
      have hm0_ : (d0 : DdiskDisk) = d0 := by first | rfl | (first | rfl | (simp [dRead, *]; done))
      refine ⟨Value.slice A5_0 ((heldB d0.2.2.2.2.2.1 d0.2.2.2.2.2.2 d1).length) (c5_0), muns [p5_0], muns [p5_1], ?_, ?_, ?_, ?_⟩
      rotate_left
      · exact Seps.grp (ls := [[p5_0], [p5_1]]) hS_
      · rw [he0]; exact (Ow.up (OwnL.ow (Ow.ownl f5_0 rfl mnil) rfl) ((Seps.self hS_ (List.Sublist.cons_cons _ (List.Sublist.cons _ List.Sublist.slnil))).1 _ (.head _)))
      · rw [hm0_]; exact (Ow.up w5_0 ((Seps.self hS_ (List.Sublist.cons _ (List.Sublist.cons_cons _ List.Sublist.slnil))).1 _ (.head _)))
      all_goals (first | rfl | (first | rfl | (simp [dRead, *]; done)))
theorem dFuse_ok (W : World) {m0 : Mem} (hm : mle (m0) (wm W)) {g0 : Nat} {d0 : DdiskDisk} (h0 : Ow (.ptr TdiskDisk) m0 [.pointer (some ⟨g0, 0, none⟩)] (g0, d0)) (d1 : Int) (h1 : inK .i64 d1) (e0 : okD d0) : CallR Try.prog 22 [.pointer (some ⟨g0, 0, none⟩), .int .i64 d1] W (m0) (fun v m' => v = .int .i64 ((dFuse d0 d1).2) ∧ Ow (.ptr TdiskDisk) m' [.pointer (some ⟨g0, 0, none⟩)] (g0, (dFuse d0 d1).1)) := by
  have h1' := h1; simp only [inK] at h1'
  refine CallR.ofB (n := 20) hm Try.func22 rfl rfl rfl ?_
  refine VC.rs ?_
  refine VO.as ?_
  refine VO.k3 0 1 4 ?_
  refine VC.seq ?_
  refine VC.rs ?_
  refine VO.mv ?_
  refine VO.call 1 rfl fnOk59 rfl rfl (fun W hW => dWrong_ok W (hW.at (i := 1) rfl) h0) (fun v1 m1 hv1 => ?_)
  obtain ⟨rfl, w1_0⟩ := hv1
  refine VO.as ?_
  refine VO.k4 0 1 4 5 ?_
  refine VC.rs ?_
  refine VO.mv ?_
  refine VO.y rfl (.neq rfl rfl) ?_
  refine VO.kp [1, 0] [(1, m1), (0, mout (wm W) (m0))] ?_
  refine VO.k5 0 1 4 5 9 ?_
  refine VC.cond rfl (fun hc2 => ?_) (fun hc2 => ?_)
  · -- T
    refine VC.rs ?_
    refine VO.mv ?_
    refine VO.as ?_
    refine VO.k5 0 1 4 5 9 ?_
    refine VC.ret ?_
    refine outR ?_
    refine ⟨_, _, res_run (rs := [.tmp 4]) rfl (.tmp rfl .nil), fun W_ hI => out_of (l := [m1]) hI [1] rfl rfl (mle_refl _) (fun hS_ => ?_)⟩
    dsimp only [packV]
    have hm0_ : ((dFuse d0 d1).1 : DdiskDisk) = d0 := by first | rfl | (first | rfl | (simp [dFuse, *]; done))
    refine ⟨?_, ?_⟩
    rotate_left
    · rw [hm0_]; exact (Ow.up w1_0 (hS_.1 _ (.head _)))
    all_goals (first | rfl | (first | rfl | (simp [dFuse, *]; done)))
  · -- F
    refine VC.skip ?_
    refine outN ?_
    refine VC.seq ?_
    refine VC.rs ?_
    refine VO.mv ?_
    refine VO.y rfl (.lss rfl rfl) ?_
    refine VO.k6 0 1 4 5 9 12 ?_
    refine VC.cond rfl (fun hc3 => ?_) (fun hc3 => ?_)
    · -- FT
      refine VC.rs ?_
      refine VO.as ?_
      refine VO.k6 0 1 4 5 9 12 ?_
      refine VC.ret ?_
      refine outR ?_
      refine ⟨_, _, res_run (rs := [.tmp 4]) rfl (.tmp rfl .nil), fun W_ hI => out_of (l := [m1]) hI [1] rfl rfl (mle_refl _) (fun hS_ => ?_)⟩
      dsimp only [packV]
      have hm0_ : ((dFuse d0 d1).1 : DdiskDisk) = d0 := by first | rfl | (first | rfl | (simp [dFuse, *]; done))
      refine ⟨?_, ?_⟩
      rotate_left
      · rw [hm0_]; exact (Ow.up w1_0 (hS_.1 _ (.head _)))
      all_goals (first | rfl | (first | rfl | (simp [dFuse, *]; done)))
    · -- FF
      refine VC.skip ?_
      refine outN ?_
      refine VC.rs ?_
      refine VO.mv ?_
      refine VO.mv ?_
      refine VO.mv ?_
      refine VO.y rfl (.nilp rfl) ?_
      refine VO.y rfl (.fa rfl tst65 rfl) ?_
      obtain ⟨q4_E, q4_A5, q4_c5, q4_A6, q4_c6, q4_A7, q4_c7, q4_A8, q4_c8, q4_A9, q4_c9, q4_n5, q4_n6, q4_n7, q4_n8, q4_n9, _, q4_S, q4_3, q4_4, q4_5, q4_6, q4_7, q4_8, q4_9⟩ := openP_diskDisk (x0 := d0.1) (x1 := d0.2.1) (x2 := d0.2.2.1) (x3 := d0.2.2.2.1) (x4 := d0.2.2.2.2.1) (x5 := d0.2.2.2.2.2.1.1) (x6 := d0.2.2.2.2.2.1.2.1) (x7 := d0.2.2.2.2.2.1.2.2.1) (x8 := d0.2.2.2.2.2.1.2.2.2) (x9 := d0.2.2.2.2.2.2) w1_0
      simp only [inK] at q4_3
      simp only [inK] at q4_4
      have q4_r5 := q4_5.rm
      have q4_r6 := q4_6.rm
      have q4_r7 := q4_7.rm
      have q4_r8 := q4_8.rm
      have q4_r9 := q4_9.rm
      refine VO.inv _ (fun _ h => h.parts (i := 1) rfl q4_S [110, 105, 106, 107, 108, 109]) ?_
      refine VO.store (k := 1) 110 rfl rfl (.inr ⟨tk4, rfl⟩) rfl rfl rfl rfl rfl ?_
      refine VO.y rfl (.nilp rfl) ?_
      refine VO.y rfl (.fa rfl tst65 rfl) ?_
      refine VO.store (k := 1) 110 rfl rfl (.inr ⟨tk3, rfl⟩) rfl rfl rfl rfl rfl ?_
      refine VO.clsP 111 [110, 105, 106, 107, 108, 109] rfl (fun hg11 => (mkP_diskDisk d0.1 d0.2.1 true d1 d0.2.2.2.2.1 d0.2.2.2.2.2.1.1 d0.2.2.2.2.2.1.2.1 d0.2.2.2.2.2.1.2.2.1 d0.2.2.2.2.2.1.2.2.2 d0.2.2.2.2.2.2 hg11 bdk bdk (OwnL.ow (Ow.ownl q4_5 rfl mnil) rfl) (OwnL.ow (Ow.ownl q4_6 rfl mnil) rfl) (OwnL.ow (Ow.ownl q4_7 rfl mnil) rfl) (OwnL.ow (Ow.ownl q4_8 rfl mnil) rfl) q4_9)) (fun mc11 ho11 => ?_)
      refine VO.k6 0 1 4 5 9 12 ?_
      refine VC.rs ?_
      refine VO.as ?_
      refine VO.kp [111, 0] [(111, mc11), (0, mout (wm W) (m0))] ?_
      refine VO.k6 0 1 4 5 9 12 ?_
      refine VC.ret ?_
      refine ⟨_, _, res_run (rs := [.tmp 4]) rfl (.tmp rfl .nil), fun W_ hI => out_of (l := [mc11]) hI [111] rfl rfl (mle_refl _) (fun hS_ => ?_)⟩
      dsimp only [packV]
      have hm0_ : ((dFuse d0 d1).1 : DdiskDisk) = (d0.1, d0.2.1, true, d1, d0.2.2.2.2) := by first | rfl | (first | rfl | (simp [dFuse, *]; done))
      refine ⟨?_, ?_⟩
      rotate_left
      · rw [hm0_]; exact (Ow.up ho11 (hS_.1 _ (.head _)))
      all_goals (first | rfl | (first | rfl | (simp [dFuse, *]; done)))
theorem dPull_ok (W : World) {m0 : Mem} (hm : mle (m0) (wm W)) {g0 : Nat} {d0 : DdiskDisk} (h0 : Ow (.ptr TdiskDisk) m0 [.pointer (some ⟨g0, 0, none⟩)] (g0, d0)) (e0 : okD d0) : CallR Try.prog 27 [.pointer (some ⟨g0, 0, none⟩)] W (m0) (fun v m' => v = .int .i64 ((dPull d0).2) ∧ Ow (.ptr TdiskDisk) m' [.pointer (some ⟨g0, 0, none⟩)] (g0, (dPull d0).1)) := by
  refine CallR.ofB (n := 12) hm Try.func27 rfl rfl rfl ?_
  refine VC.rs ?_
  refine VO.as ?_
  refine VO.k2 0 2 ?_
  refine VC.seq ?_
  refine VC.rs ?_
  refine VO.mv ?_
  refine VO.call 1 rfl fnOk59 rfl rfl (fun W hW => dWrong_ok W (hW.at (i := 1) rfl) h0) (fun v1 m1 hv1 => ?_)
  obtain ⟨rfl, w1_0⟩ := hv1
  refine VO.as ?_
  refine VO.k3 0 2 3 ?_
  refine VC.rs ?_
  refine VO.mv ?_
  refine VO.y rfl (.neq rfl rfl) ?_
  refine VO.kp [1, 0] [(1, m1), (0, mout (wm W) (m0))] ?_
  refine VO.k4 0 2 3 7 ?_
  refine VC.cond rfl (fun hc2 => ?_) (fun hc2 => ?_)
  · -- T
    refine VC.rs ?_
    refine VO.mv ?_
    refine VO.as ?_
    refine VO.k4 0 2 3 7 ?_
    refine VC.ret ?_
    refine outR ?_
    refine ⟨_, _, res_run (rs := [.tmp 2]) rfl (.tmp rfl .nil), fun W_ hI => out_of (l := [m1]) hI [1] rfl rfl (mle_refl _) (fun hS_ => ?_)⟩
    dsimp only [packV]
    have hm0_ : ((dPull d0).1 : DdiskDisk) = d0 := by first | rfl | (first | rfl | (simp [dPull, *]; done))
    refine ⟨?_, ?_⟩
    rotate_left
    · rw [hm0_]; exact (Ow.up w1_0 (hS_.1 _ (.head _)))
    all_goals (first | rfl | (first | rfl | (simp [dPull, *]; done)))
  · -- F
    refine VC.skip ?_
    refine outN ?_
    refine VC.rs ?_
    refine VO.mv ?_
    refine VO.y rfl (.nilp rfl) ?_
    refine VO.y rfl (.fa rfl tst65 rfl) ?_
    obtain ⟨q3_E, q3_A5, q3_c5, q3_A6, q3_c6, q3_A7, q3_c7, q3_A8, q3_c8, q3_A9, q3_c9, q3_n5, q3_n6, q3_n7, q3_n8, q3_n9, _, q3_S, q3_3, q3_4, q3_5, q3_6, q3_7, q3_8, q3_9⟩ := openP_diskDisk (x0 := d0.1) (x1 := d0.2.1) (x2 := d0.2.2.1) (x3 := d0.2.2.2.1) (x4 := d0.2.2.2.2.1) (x5 := d0.2.2.2.2.2.1.1) (x6 := d0.2.2.2.2.2.1.2.1) (x7 := d0.2.2.2.2.2.1.2.2.1) (x8 := d0.2.2.2.2.2.1.2.2.2) (x9 := d0.2.2.2.2.2.2) w1_0
    simp only [inK] at q3_3
    simp only [inK] at q3_4
    have q3_r5 := q3_5.rm
    have q3_r6 := q3_6.rm
    have q3_r7 := q3_7.rm
    have q3_r8 := q3_8.rm
    have q3_r9 := q3_9.rm
    refine VO.inv _ (fun _ h => h.parts (i := 1) rfl q3_S [109, 104, 105, 106, 107, 108]) ?_
    refine VO.store (k := 1) 109 rfl rfl (.inr ⟨tk4, rfl⟩) rfl rfl rfl rfl rfl ?_
    refine VO.clsP 110 [109, 104, 105, 106, 107, 108] rfl (fun hg10 => (mkP_diskDisk d0.1 true d0.2.2.1 d0.2.2.2.1 d0.2.2.2.2.1 d0.2.2.2.2.2.1.1 d0.2.2.2.2.2.1.2.1 d0.2.2.2.2.2.1.2.2.1 d0.2.2.2.2.2.1.2.2.2 d0.2.2.2.2.2.2 hg10 bdk bdk (OwnL.ow (Ow.ownl q3_5 rfl mnil) rfl) (OwnL.ow (Ow.ownl q3_6 rfl mnil) rfl) (OwnL.ow (Ow.ownl q3_7 rfl mnil) rfl) (OwnL.ow (Ow.ownl q3_8 rfl mnil) rfl) q3_9)) (fun mc10 ho10 => ?_)
    refine VO.k4 0 2 3 7 ?_
    refine VC.rs ?_
    refine VO.as ?_
    refine VO.k4 0 2 3 7 ?_
    refine VC.ret ?_
    refine ⟨_, _, res_run (rs := [.tmp 2]) rfl (.tmp rfl .nil), fun W_ hI => out_of (l := [mc10]) hI [110] rfl rfl (mle_refl _) (fun hS_ => ?_)⟩
    dsimp only [packV]
    have hm0_ : ((dPull d0).1 : DdiskDisk) = (d0.1, true, d0.2.2) := by first | rfl | (first | rfl | (simp [dPull, *]; done))
    refine ⟨?_, ?_⟩
    rotate_left
    · rw [hm0_]; exact (Ow.up ho10 (hS_.1 _ (.head _)))
    all_goals (first | rfl | (first | rfl | (simp [dPull, *]; done)))
theorem dOn_ok (W : World) {m0 : Mem} (hm : mle (m0) (wm W)) {g0 : Nat} {d0 : DdiskDisk} (h0 : Ow (.ptr TdiskDisk) m0 [.pointer (some ⟨g0, 0, none⟩)] (g0, d0)) : CallR Try.prog 26 [.pointer (some ⟨g0, 0, none⟩)] W (m0) (fun v m' => v = .bool (decide (d0.1 = true ∧ d0.2.1 = false)) ∧ Ow (.ptr TdiskDisk) m' [.pointer (some ⟨g0, 0, none⟩)] (g0, d0)) := by
  refine CallR.ofB (n := 13) hm Try.func26 rfl rfl rfl ?_
  refine VC.rs ?_
  refine VO.as ?_
  refine VO.k2 0 2 ?_
  refine VC.rs ?_
  refine VO.mv ?_
  refine VO.call 1 rfl fnOk61 rfl rfl (fun W hW => dNone_ok W (hW.at (i := 1) rfl) h0) (fun v1 m1 hv1 => ?_)
  obtain ⟨rfl, w1_0⟩ := hv1
  refine VO.y rfl (.notD rfl) ?_
  refine VO.mv ?_
  refine VO.dec (t := 6) rfl (fun hc2 => ?_) (fun hc2 => ?_)
  · -- T
    refine VO.gy rfl ⟨_, rfl, rfl⟩ (.mv rfl) ?_
    refine VO.gy rfl ⟨_, rfl, rfl⟩ (.nilp rfl) ?_
    refine VO.gy rfl ⟨_, rfl, rfl⟩ (.fa rfl tst65 rfl) ?_
    obtain ⟨q3_E, q3_A5, q3_c5, q3_A6, q3_c6, q3_A7, q3_c7, q3_A8, q3_c8, q3_A9, q3_c9, q3_n5, q3_n6, q3_n7, q3_n8, q3_n9, _, q3_S, q3_3, q3_4, q3_5, q3_6, q3_7, q3_8, q3_9⟩ := openP_diskDisk (x0 := d0.1) (x1 := d0.2.1) (x2 := d0.2.2.1) (x3 := d0.2.2.2.1) (x4 := d0.2.2.2.2.1) (x5 := d0.2.2.2.2.2.1.1) (x6 := d0.2.2.2.2.2.1.2.1) (x7 := d0.2.2.2.2.2.1.2.2.1) (x8 := d0.2.2.2.2.2.1.2.2.2) (x9 := d0.2.2.2.2.2.2) w1_0
    simp only [inK] at q3_3
    simp only [inK] at q3_4
    have q3_r5 := q3_5.rm
    have q3_r6 := q3_6.rm
    have q3_r7 := q3_7.rm
    have q3_r8 := q3_8.rm
    have q3_r9 := q3_9.rm
    refine VO.inv _ (fun _ h => h.parts (i := 1) rfl q3_S [109, 104, 105, 106, 107, 108]) ?_
    refine VO.gy rfl ⟨_, rfl, rfl⟩ (.ld1 109 rfl tk4 rfl (cellsAt_one rfl rfl)) ?_
    refine VO.gy rfl ⟨_, rfl, rfl⟩ (.not rfl) ?_
    refine VO.y rfl (.pT rfl rfl) ?_
    refine VO.as ?_
    refine VO.clsP 110 [109, 104, 105, 106, 107, 108] rfl (fun hg10 => (show Ow (.ptr TdiskDisk) _ _ (_, d0) from (mkP_diskDisk d0.1 d0.2.1 d0.2.2.1 d0.2.2.2.1 d0.2.2.2.2.1 d0.2.2.2.2.2.1.1 d0.2.2.2.2.2.1.2.1 d0.2.2.2.2.2.1.2.2.1 d0.2.2.2.2.2.1.2.2.2 d0.2.2.2.2.2.2 hg10 bdk bdk (OwnL.ow (Ow.ownl q3_5 rfl mnil) rfl) (OwnL.ow (Ow.ownl q3_6 rfl mnil) rfl) (OwnL.ow (Ow.ownl q3_7 rfl mnil) rfl) (OwnL.ow (Ow.ownl q3_8 rfl mnil) rfl) q3_9))) (fun mc10 ho10 => ?_)
    refine VO.k2 0 2 ?_
    refine VC.ret ?_
    refine ⟨_, _, res_run (rs := [.tmp 2]) rfl (.tmp rfl .nil), fun W_ hI => out_of (l := [mc10]) hI [110] rfl rfl (mle_refl _) (fun hS_ => ?_)⟩
    dsimp only [packV]
    have hm0_ : (d0 : DdiskDisk) = d0 := by first | rfl | (simp [*]; done)
    refine ⟨?_, ?_⟩
    rotate_left
    · rw [hm0_]; exact (Ow.up ho10 (hS_.1 _ (.head _)))
    all_goals (first | rfl | (cases h1_ : d0.1 <;> cases h2_ : d0.2.1 <;> simp_all))
  · -- F
    refine VO.gN ?_
    refine VO.gN ?_
    refine VO.gN ?_
    refine VO.gN ?_
    refine VO.gN ?_
    refine VO.y rfl (.pF rfl rfl) ?_
    refine VO.as ?_
    refine VO.k2 0 2 ?_
    refine VC.ret ?_
    refine ⟨_, _, res_run (rs := [.tmp 2]) rfl (.tmp rfl .nil), fun W_ hI => out_of (l := [m1]) hI [1] rfl rfl (mle_refl _) (fun hS_ => ?_)⟩
    dsimp only [packV]
    have hm0_ : (d0 : DdiskDisk) = d0 := by first | rfl | (simp [*]; done)
    refine ⟨?_, ?_⟩
    rotate_left
    · rw [hm0_]; exact (Ow.up w1_0 (hS_.1 _ (.head _)))
    all_goals (first | rfl | (cases h1_ : d0.1 <;> cases h2_ : d0.2.1 <;> simp_all))
theorem fin0_dStart_ok {P : Prop} (h : P := by first | (rw [start_bad1 (by assumption)] <;> rfl) | (rw [start_bad2 (by assumption) (.inl (by simpa using ‹_›))] <;> rfl) | (rw [start_bad2 (by assumption) (.inr (.inl (by assumption)))] <;> rfl) | (rw [start_bad2 (by assumption) (.inr (.inr (by assumption)))] <;> rfl) | (rw [start_go (by assumption) (by simpa using ‹_›) (by assumption) (by assumption), torn_nil (by omega)] <;> rfl) | (rw [start_go (by assumption) (by simpa using ‹_›) (by assumption) (by assumption), torn_no (by assumption) (by assumption)] <;> rfl) | (rw [start_go (by assumption) (by simpa using ‹_›) (by assumption) (by assumption), torn_yes (by assumption) (by assumption), stepQ, setQ0 ‹_ = (0 : Int)›, getF0 ‹_ = (0 : Int)›] <;> rfl) | (rw [start_go (by assumption) (by simpa using ‹_›) (by assumption) (by assumption), torn_yes (by assumption) (by assumption), stepQ, setQ1 ‹_ = (1 : Int)›, getF1 ‹_ = (1 : Int)›] <;> rfl) | (rw [start_go (by assumption) (by simpa using ‹_›) (by assumption) (by assumption), torn_yes (by assumption) (by assumption), stepQ, setQ2 ‹_ = (2 : Int)›, getF2 ‹_ = (2 : Int)›] <;> rfl) | (rw [start_go (by assumption) (by simpa using ‹_›) (by assumption) (by assumption), torn_yes (by assumption) (by assumption), stepQ, setQ3 ‹_ = (3 : Int)›, getF3 ‹_ = (3 : Int)›] <;> rfl)) : P := h
theorem fin2_dStart_ok {P : Prop} (h : P := by first | omega | (simp only [List.length_append, List.length_nil, List.length_cons, List.length_take, List.length_drop] at *; omega) | (have h_ := start_good (by assumption) ‹_[0]? = some _›; simp only [inF] at h_; omega)) : P := h
set_option maxHeartbeats 4000000 in
theorem dStart_ok (W : World) {m0 : Mem} (hm : mle (m0) (wm W)) {g0 : Nat} {d0 : DdiskDisk} (h0 : Ow (.ptr TdiskDisk) m0 [.pointer (some ⟨g0, 0, none⟩)] (g0, d0)) (d1 : Int) (h1 : inK .i64 d1) (d2 : Int) (h2 : inK .i64 d2) (e0 : okD d0) (e1 : wD d0 ≤ 1000000000000) : CallR Try.prog 28 [.pointer (some ⟨g0, 0, none⟩), .int .i64 d1, .int .i64 d2] W (m0) (fun v m' => v = .int .i64 ((dStart d0 d1 d2).2) ∧ Ow (.ptr TdiskDisk) m' [.pointer (some ⟨g0, 0, none⟩)] (g0, (dStart d0 d1 d2).1)) := by
  have h1' := h1; simp only [inK] at h1'
  have h2' := h2; simp only [inK] at h2'
  refine CallR.ofB (n := 93) hm Try.func28 rfl rfl rfl ?_
  refine VC.rs ?_
  refine VO.as ?_
  refine VO.k4 0 1 2 6 ?_
  refine VC.seq ?_
  refine VC.block ?_
  refine VC.rs ?_
  refine VO.mv ?_
  refine VO.call 1 rfl fnOk61 rfl rfl (fun W hW => dNone_ok W (hW.at (i := 1) rfl) h0) (fun v1 m1 hv1 => ?_)
  obtain ⟨rfl, w1_0⟩ := hv1
  refine VO.as ?_
  refine VO.k5 0 1 2 6 8 ?_
  refine VC.cond rfl (fun hc2 => ?_) (fun hc2 => ?_)
  · -- T
    refine VC.rs ?_
    refine VO.as ?_
    refine VO.kp [1, 0] [(1, m1), (0, mout (wm W) (m0))] ?_
    refine VO.k5 0 1 2 6 8 ?_
    refine VC.ret ?_
    refine outBR ?_
    refine outR ?_
    refine ⟨_, _, res_run (rs := [.tmp 6]) rfl (.tmp rfl .nil), fun W_ hI => out_of (l := [m1]) hI [1] rfl rfl (mle_refl _) (fun hS_ => ?_)⟩
    dsimp only [packV]
    have hm0_ : ((dStart d0 d1 d2).1 : DdiskDisk) = d0 := by first | rfl | (exact fin0_dStart_ok)
    refine ⟨?_, ?_⟩
    rotate_left
    · rw [hm0_]; exact (Ow.up w1_0 (hS_.1 _ (.head _)))
    all_goals (first | rfl | (exact fin0_dStart_ok))
  · -- F
    refine VC.rs ?_
    refine VO.mv ?_
    refine VO.y rfl (.nilp rfl) ?_
    refine VO.y rfl (.fa rfl tst65 rfl) ?_
    obtain ⟨q3_E, q3_A5, q3_c5, q3_A6, q3_c6, q3_A7, q3_c7, q3_A8, q3_c8, q3_A9, q3_c9, q3_n5, q3_n6, q3_n7, q3_n8, q3_n9, _, q3_S, q3_3, q3_4, q3_5, q3_6, q3_7, q3_8, q3_9⟩ := openP_diskDisk (x0 := d0.1) (x1 := d0.2.1) (x2 := d0.2.2.1) (x3 := d0.2.2.2.1) (x4 := d0.2.2.2.2.1) (x5 := d0.2.2.2.2.2.1.1) (x6 := d0.2.2.2.2.2.1.2.1) (x7 := d0.2.2.2.2.2.1.2.2.1) (x8 := d0.2.2.2.2.2.1.2.2.2) (x9 := d0.2.2.2.2.2.2) w1_0
    simp only [inK] at q3_3
    simp only [inK] at q3_4
    have q3_r5 := q3_5.rm
    have q3_r6 := q3_6.rm
    have q3_r7 := q3_7.rm
    have q3_r8 := q3_8.rm
    have q3_r9 := q3_9.rm
    refine VO.inv _ (fun _ h => h.parts (i := 1) rfl q3_S [109, 104, 105, 106, 107, 108]) ?_
    refine VO.y rfl (.ld1 109 rfl tk4 rfl (cellsAt_one rfl rfl)) ?_
    refine VO.y rfl (.not rfl) ?_
    refine VO.mv ?_
    refine VO.decBN (t := 17) rfl (fun hc10 => ?_) (fun hc10 => ?_)
    · -- FT
      refine VO.gN ?_
      refine VO.gN ?_
      refine VO.y rfl (.pT rfl rfl) ?_
      refine VO.mv ?_
      refine VO.gN ?_
      refine VO.gN ?_
      refine VO.y rfl (.pT rfl rfl) ?_
      refine VO.as ?_
      refine VO.clsP 111 [109, 104, 105, 106, 107, 108] rfl (fun hg11 => (show Ow (.ptr TdiskDisk) _ _ (_, d0) from (mkP_diskDisk d0.1 d0.2.1 d0.2.2.1 d0.2.2.2.1 d0.2.2.2.2.1 d0.2.2.2.2.2.1.1 d0.2.2.2.2.2.1.2.1 d0.2.2.2.2.2.1.2.2.1 d0.2.2.2.2.2.1.2.2.2 d0.2.2.2.2.2.2 hg11 (by simp only [inK]; (exact fin2_dStart_ok)) (by simp only [inK]; (exact fin2_dStart_ok)) (OwnL.ow (Ow.ownl q3_5 rfl mnil) rfl) (OwnL.ow (Ow.ownl q3_6 rfl mnil) rfl) (OwnL.ow (Ow.ownl q3_7 rfl mnil) rfl) (OwnL.ow (Ow.ownl q3_8 rfl mnil) rfl) q3_9))) (fun mc11 ho11 => ?_)
      refine VO.kp [111, 0] [(111, mc11), (0, mout (wm W) (m0))] ?_
      refine VO.k6 0 1 2 6 8 11 ?_
      refine VC.condT rfl ?_
      refine VC.rs ?_
      refine VO.as ?_
      refine VO.k6 0 1 2 6 8 11 ?_
      refine VC.ret ?_
      refine outBR ?_
      refine outR ?_
      refine ⟨_, _, res_run (rs := [.tmp 6]) rfl (.tmp rfl .nil), fun W_ hI => out_of (l := [mc11]) hI [111] rfl rfl (mle_refl _) (fun hS_ => ?_)⟩
      dsimp only [packV]
      have hm0_ : ((dStart d0 d1 d2).1 : DdiskDisk) = d0 := by first | rfl | (exact fin0_dStart_ok)
      refine ⟨?_, ?_⟩
      rotate_left
      · rw [hm0_]; exact (Ow.up ho11 (hS_.1 _ (.head _)))
      all_goals (first | rfl | (exact fin0_dStart_ok))
    · -- FF
      refine VO.gy rfl ⟨_, rfl, rfl⟩ (.mv rfl) ?_
      refine VO.gy rfl ⟨_, rfl, rfl⟩ (.lss rfl rfl) ?_
      refine VO.y rfl (.pF rfl rfl) ?_
      refine VO.mv ?_
      refine VO.dec (t := 21) rfl (fun hc12 => ?_) (fun hc12 => ?_)
      · -- FFT
        refine VO.gN ?_
        refine VO.gN ?_
        refine VO.y rfl (.pT rfl rfl) ?_
        refine VO.as ?_
        refine VO.clsP 113 [109, 104, 105, 106, 107, 108] rfl (fun hg13 => (show Ow (.ptr TdiskDisk) _ _ (_, d0) from (mkP_diskDisk d0.1 d0.2.1 d0.2.2.1 d0.2.2.2.1 d0.2.2.2.2.1 d0.2.2.2.2.2.1.1 d0.2.2.2.2.2.1.2.1 d0.2.2.2.2.2.1.2.2.1 d0.2.2.2.2.2.1.2.2.2 d0.2.2.2.2.2.2 hg13 (by simp only [inK]; (exact fin2_dStart_ok)) (by simp only [inK]; (exact fin2_dStart_ok)) (OwnL.ow (Ow.ownl q3_5 rfl mnil) rfl) (OwnL.ow (Ow.ownl q3_6 rfl mnil) rfl) (OwnL.ow (Ow.ownl q3_7 rfl mnil) rfl) (OwnL.ow (Ow.ownl q3_8 rfl mnil) rfl) q3_9))) (fun mc13 ho13 => ?_)
        refine VO.kp [113, 0] [(113, mc13), (0, mout (wm W) (m0))] ?_
        refine VO.k6 0 1 2 6 8 11 ?_
        refine VC.condT rfl ?_
        refine VC.rs ?_
        refine VO.as ?_
        refine VO.k6 0 1 2 6 8 11 ?_
        refine VC.ret ?_
        refine outBR ?_
        refine outR ?_
        refine ⟨_, _, res_run (rs := [.tmp 6]) rfl (.tmp rfl .nil), fun W_ hI => out_of (l := [mc13]) hI [113] rfl rfl (mle_refl _) (fun hS_ => ?_)⟩
        dsimp only [packV]
        have hm0_ : ((dStart d0 d1 d2).1 : DdiskDisk) = d0 := by first | rfl | (exact fin0_dStart_ok)
        refine ⟨?_, ?_⟩
        rotate_left
        · rw [hm0_]; exact (Ow.up ho13 (hS_.1 _ (.head _)))
        all_goals (first | rfl | (exact fin0_dStart_ok))
      · -- FFF
        refine VO.gy rfl ⟨_, rfl, rfl⟩ (.mv rfl) ?_
        refine VO.gy rfl ⟨_, rfl, rfl⟩ (.lss rfl rfl) ?_
        refine VO.y rfl (.pF rfl rfl) ?_
        refine VO.as ?_
        refine VO.clsP 114 [109, 104, 105, 106, 107, 108] rfl (fun hg14 => (show Ow (.ptr TdiskDisk) _ _ (_, d0) from (mkP_diskDisk d0.1 d0.2.1 d0.2.2.1 d0.2.2.2.1 d0.2.2.2.2.1 d0.2.2.2.2.2.1.1 d0.2.2.2.2.2.1.2.1 d0.2.2.2.2.2.1.2.2.1 d0.2.2.2.2.2.1.2.2.2 d0.2.2.2.2.2.2 hg14 (by simp only [inK]; (exact fin2_dStart_ok)) (by simp only [inK]; (exact fin2_dStart_ok)) (OwnL.ow (Ow.ownl q3_5 rfl mnil) rfl) (OwnL.ow (Ow.ownl q3_6 rfl mnil) rfl) (OwnL.ow (Ow.ownl q3_7 rfl mnil) rfl) (OwnL.ow (Ow.ownl q3_8 rfl mnil) rfl) q3_9))) (fun mc14 ho14 => ?_)
        refine VO.kp [114, 0] [(114, mc14), (0, mout (wm W) (m0))] ?_
        refine VO.k6 0 1 2 6 8 11 ?_
        refine VC.cond rfl (fun hc15 => ?_) (fun hc15 => ?_)
        · -- FFFT
          refine VC.rs ?_
          refine VO.as ?_
          refine VO.k6 0 1 2 6 8 11 ?_
          refine VC.ret ?_
          refine outBR ?_
          refine outR ?_
          refine ⟨_, _, res_run (rs := [.tmp 6]) rfl (.tmp rfl .nil), fun W_ hI => out_of (l := [mc14]) hI [114] rfl rfl (mle_refl _) (fun hS_ => ?_)⟩
          dsimp only [packV]
          have hm0_ : ((dStart d0 d1 d2).1 : DdiskDisk) = d0 := by first | rfl | (exact fin0_dStart_ok)
          refine ⟨?_, ?_⟩
          rotate_left
          · rw [hm0_]; exact (Ow.up ho14 (hS_.1 _ (.head _)))
          all_goals (first | rfl | (exact fin0_dStart_ok))
        · -- FFFF
          refine VC.skip ?_
          refine outBN ?_
          refine outN ?_
          refine VC.rs ?_
          refine VO.mv ?_
          refine VO.mv ?_
          refine VO.mv ?_
          refine VO.y rfl (.nilp rfl) ?_
          refine VO.y rfl (.fa rfl tst65 rfl) ?_
          obtain ⟨q16_E, q16_A5, q16_c5, q16_A6, q16_c6, q16_A7, q16_c7, q16_A8, q16_c8, q16_A9, q16_c9, q16_n5, q16_n6, q16_n7, q16_n8, q16_n9, _, q16_S, q16_3, q16_4, q16_5, q16_6, q16_7, q16_8, q16_9⟩ := openP_diskDisk (x0 := d0.1) (x1 := d0.2.1) (x2 := d0.2.2.1) (x3 := d0.2.2.2.1) (x4 := d0.2.2.2.2.1) (x5 := d0.2.2.2.2.2.1.1) (x6 := d0.2.2.2.2.2.1.2.1) (x7 := d0.2.2.2.2.2.1.2.2.1) (x8 := d0.2.2.2.2.2.1.2.2.2) (x9 := d0.2.2.2.2.2.2) ho14
          simp only [inK] at q16_3
          simp only [inK] at q16_4
          have q16_r5 := q16_5.rm
          have q16_r6 := q16_6.rm
          have q16_r7 := q16_7.rm
          have q16_r8 := q16_8.rm
          have q16_r9 := q16_9.rm
          refine VO.inv _ (fun _ h => h.parts (i := 114) rfl q16_S [122, 117, 118, 119, 120, 121]) ?_
          refine VO.y rfl (.ld1 122 rfl tk63 rfl (cellsAt_one rfl rfl)) ?_
          refine VO.y rfl (.lenS rfl tsl63) ?_
          refine VO.y rfl (.minM rfl rfl) ?_
          refine VO.clsP 124 [122, 117, 118, 119, 120, 121] rfl (fun hg24 => (show Ow (.ptr TdiskDisk) _ _ (_, d0) from (mkP_diskDisk d0.1 d0.2.1 d0.2.2.1 d0.2.2.2.1 d0.2.2.2.2.1 d0.2.2.2.2.2.1.1 d0.2.2.2.2.2.1.2.1 d0.2.2.2.2.2.1.2.2.1 d0.2.2.2.2.2.1.2.2.2 d0.2.2.2.2.2.2 hg24 (by simp only [inK]; (exact fin2_dStart_ok)) (by simp only [inK]; (exact fin2_dStart_ok)) (OwnL.ow (Ow.ownl q16_5 rfl mnil) rfl) (OwnL.ow (Ow.ownl q16_6 rfl mnil) rfl) (OwnL.ow (Ow.ownl q16_7 rfl mnil) rfl) (OwnL.ow (Ow.ownl q16_8 rfl mnil) rfl) q16_9))) (fun mc24 ho24 => ?_)
          refine VO.call 124 rfl fnOk62 rfl rfl (fun W hW => dSettle_ok W (hW.at (i := 124) rfl) ho24 (min d1 ((d0.2.2.2.2.2.2.length : Nat) : Int)) (by simp only [inK]; (exact fin2_dStart_ok)) (by assumption) (by exact fin2_dStart_ok) (by exact fin2_dStart_ok)) (fun v23 m23 hv23 => ?_)
          obtain ⟨rfl, w23_0⟩ := hv23
          have hfa25 := (settle_ok (min d1 ((d0.2.2.2.2.2.2.length : Nat) : Int)).toNat (show okD d0 by assumption))
          have hfa26 := (settle_w d0 (min d1 ((d0.2.2.2.2.2.2.length : Nat) : Int)).toNat)
          refine VO.k6 0 1 2 6 8 11 ?_
          refine VC.seq ?_
          refine VC.rs ?_
          refine VO.mv ?_
          refine VO.y rfl (.nilp rfl) ?_
          refine VO.y rfl (.fa rfl tst65 rfl) ?_
          obtain ⟨q27_E, q27_A5, q27_c5, q27_A6, q27_c6, q27_A7, q27_c7, q27_A8, q27_c8, q27_A9, q27_c9, q27_n5, q27_n6, q27_n7, q27_n8, q27_n9, _, q27_S, q27_3, q27_4, q27_5, q27_6, q27_7, q27_8, q27_9⟩ := openP_diskDisk (x0 := (settleD d0 (min d1 ((d0.2.2.2.2.2.2.length : Nat) : Int)).toNat).1) (x1 := (settleD d0 (min d1 ((d0.2.2.2.2.2.2.length : Nat) : Int)).toNat).2.1) (x2 := (settleD d0 (min d1 ((d0.2.2.2.2.2.2.length : Nat) : Int)).toNat).2.2.1) (x3 := (settleD d0 (min d1 ((d0.2.2.2.2.2.2.length : Nat) : Int)).toNat).2.2.2.1) (x4 := (settleD d0 (min d1 ((d0.2.2.2.2.2.2.length : Nat) : Int)).toNat).2.2.2.2.1) (x5 := ((settleD d0 (min d1 ((d0.2.2.2.2.2.2.length : Nat) : Int)).toNat).2.2.2.2.2.1).1) (x6 := ((settleD d0 (min d1 ((d0.2.2.2.2.2.2.length : Nat) : Int)).toNat).2.2.2.2.2.1).2.1) (x7 := ((settleD d0 (min d1 ((d0.2.2.2.2.2.2.length : Nat) : Int)).toNat).2.2.2.2.2.1).2.2.1) (x8 := ((settleD d0 (min d1 ((d0.2.2.2.2.2.2.length : Nat) : Int)).toNat).2.2.2.2.2.1).2.2.2) (x9 := (settleD d0 (min d1 ((d0.2.2.2.2.2.2.length : Nat) : Int)).toNat).2.2.2.2.2.2) w23_0
          simp only [inK] at q27_3
          simp only [inK] at q27_4
          have q27_r5 := q27_5.rm
          have q27_r6 := q27_6.rm
          have q27_r7 := q27_7.rm
          have q27_r8 := q27_8.rm
          have q27_r9 := q27_9.rm
          refine VO.inv _ (fun _ h => h.parts (i := 124) rfl q27_S [133, 128, 129, 130, 131, 132]) ?_
          refine VO.y rfl (.ld1 133 rfl tk63 rfl (cellsAt_one rfl rfl)) ?_
          refine VO.y rfl (.lenS rfl tsl63) ?_
          refine VO.y rfl (.gtr rfl rfl) ?_
          refine VO.mv ?_
          refine VO.dec (t := 40) rfl (fun hc34 => ?_) (fun hc34 => ?_)
          · -- FFFFT
            refine VO.gy rfl ⟨_, rfl, rfl⟩ (.mv rfl) ?_
            refine VO.gy rfl ⟨_, rfl, rfl⟩ (.nilp rfl) ?_
            refine VO.gy rfl ⟨_, rfl, rfl⟩ (.fa rfl tst65 rfl) ?_
            refine VO.gy rfl ⟨_, rfl, rfl⟩ (.ld1 133 rfl tk63 rfl (cellsAt_one rfl rfl)) ?_
            obtain ⟨x35, hx35⟩ : ∃ z_, ((settleD d0 (min d1 ((d0.2.2.2.2.2.2.length : Nat) : Int)).toNat).2.2.2.2.2.2)[0]? = some z_ := ⟨_, List.getElem?_eq_getElem (by exact fin2_dStart_ok)⟩
            obtain ⟨gg35, oo35, ec35, ea35, hce35, hre35⟩ := (Ow.rd q27_9 (mle_refl _)).elem hx35
            cases ea35
            obtain ⟨q35_A2, q35_c2, rfl, q35_0, q35_1, q35_2, q35_3⟩ := open_diskstep (x0 := x35.1) (x1 := x35.2.1) (x2 := x35.2.2.1) (x3 := x35.2.2.2) hre35
            simp only [inK] at q35_0
            simp only [inK] at q35_1
            have q35_r2 := Rd.room q35_2
            simp only [inK] at q35_3
            refine VO.gy rfl ⟨_, rfl, rfl⟩ (.ixI 0 rfl rfl tsl63 rfl (by exact fin2_dStart_ok)) ?_
            refine VO.gy rfl ⟨_, rfl, rfl⟩ (.fa rfl tst98 rfl) ?_
            refine VO.gy rfl ⟨_, rfl, rfl⟩ (.ld1 132 rfl tk3 rfl (hce35.at1 (j := 0) rfl)) ?_
            refine VO.gy rfl ⟨_, rfl, rfl⟩ (.eql rfl rfl) ?_
            refine VO.y rfl (.pT rfl rfl) ?_
            refine VO.clsP 136 [133, 128, 129, 130, 131, 132] rfl (fun hg36 => (show Ow (.ptr TdiskDisk) _ _ (_, (settleD d0 (min d1 ((d0.2.2.2.2.2.2.length : Nat) : Int)).toNat)) from (mkP_diskDisk ((settleD d0 (min d1 ((d0.2.2.2.2.2.2.length : Nat) : Int)).toNat).1) ((settleD d0 (min d1 ((d0.2.2.2.2.2.2.length : Nat) : Int)).toNat).2.1) ((settleD d0 (min d1 ((d0.2.2.2.2.2.2.length : Nat) : Int)).toNat).2.2.1) ((settleD d0 (min d1 ((d0.2.2.2.2.2.2.length : Nat) : Int)).toNat).2.2.2.1) ((settleD d0 (min d1 ((d0.2.2.2.2.2.2.length : Nat) : Int)).toNat).2.2.2.2.1) (((settleD d0 (min d1 ((d0.2.2.2.2.2.2.length : Nat) : Int)).toNat).2.2.2.2.2.1).1) (((settleD d0 (min d1 ((d0.2.2.2.2.2.2.length : Nat) : Int)).toNat).2.2.2.2.2.1).2.1) (((settleD d0 (min d1 ((d0.2.2.2.2.2.2.length : Nat) : Int)).toNat).2.2.2.2.2.1).2.2.1) (((settleD d0 (min d1 ((d0.2.2.2.2.2.2.length : Nat) : Int)).toNat).2.2.2.2.2.1).2.2.2) ((settleD d0 (min d1 ((d0.2.2.2.2.2.2.length : Nat) : Int)).toNat).2.2.2.2.2.2) hg36 (by simp only [inK]; (exact fin2_dStart_ok)) (by simp only [inK]; (exact fin2_dStart_ok)) (OwnL.ow (Ow.ownl q27_5 rfl mnil) rfl) (OwnL.ow (Ow.ownl q27_6 rfl mnil) rfl) (OwnL.ow (Ow.ownl q27_7 rfl mnil) rfl) (OwnL.ow (Ow.ownl q27_8 rfl mnil) rfl) q27_9))) (fun mc36 ho36 => ?_)
            refine VO.k7 0 1 2 6 8 11 49 ?_
            refine VC.cond rfl (fun hc37 => ?_) (fun hc37 => ?_)
            · -- FFFFTT
              refine VC.rs ?_
              refine VO.mv ?_
              refine VO.y rfl (.nilp rfl) ?_
              refine VO.y rfl (.fa rfl tst65 rfl) ?_
              obtain ⟨q38_E, q38_A5, q38_c5, q38_A6, q38_c6, q38_A7, q38_c7, q38_A8, q38_c8, q38_A9, q38_c9, q38_n5, q38_n6, q38_n7, q38_n8, q38_n9, _, q38_S, q38_3, q38_4, q38_5, q38_6, q38_7, q38_8, q38_9⟩ := openP_diskDisk (x0 := (settleD d0 (min d1 ((d0.2.2.2.2.2.2.length : Nat) : Int)).toNat).1) (x1 := (settleD d0 (min d1 ((d0.2.2.2.2.2.2.length : Nat) : Int)).toNat).2.1) (x2 := (settleD d0 (min d1 ((d0.2.2.2.2.2.2.length : Nat) : Int)).toNat).2.2.1) (x3 := (settleD d0 (min d1 ((d0.2.2.2.2.2.2.length : Nat) : Int)).toNat).2.2.2.1) (x4 := (settleD d0 (min d1 ((d0.2.2.2.2.2.2.length : Nat) : Int)).toNat).2.2.2.2.1) (x5 := ((settleD d0 (min d1 ((d0.2.2.2.2.2.2.length : Nat) : Int)).toNat).2.2.2.2.2.1).1) (x6 := ((settleD d0 (min d1 ((d0.2.2.2.2.2.2.length : Nat) : Int)).toNat).2.2.2.2.2.1).2.1) (x7 := ((settleD d0 (min d1 ((d0.2.2.2.2.2.2.length : Nat) : Int)).toNat).2.2.2.2.2.1).2.2.1) (x8 := ((settleD d0 (min d1 ((d0.2.2.2.2.2.2.length : Nat) : Int)).toNat).2.2.2.2.2.1).2.2.2) (x9 := (settleD d0 (min d1 ((d0.2.2.2.2.2.2.length : Nat) : Int)).toNat).2.2.2.2.2.2) ho36
              simp only [inK] at q38_3
              simp only [inK] at q38_4
              have q38_r5 := q38_5.rm
              have q38_r6 := q38_6.rm
              have q38_r7 := q38_7.rm
              have q38_r8 := q38_8.rm
              have q38_r9 := q38_9.rm
              refine VO.inv _ (fun _ h => h.parts (i := 136) rfl q38_S [144, 139, 140, 141, 142, 143]) ?_
              refine VO.y rfl (.ld1 144 rfl tk63 rfl (cellsAt_one rfl rfl)) ?_
              obtain ⟨x45, hx45⟩ : ∃ z_, ((settleD d0 (min d1 ((d0.2.2.2.2.2.2.length : Nat) : Int)).toNat).2.2.2.2.2.2)[0]? = some z_ := ⟨_, List.getElem?_eq_getElem (by exact fin2_dStart_ok)⟩
              obtain ⟨gg45, oo45, ec45, ea45, hce45, hre45⟩ := (Ow.rd q38_9 (mle_refl _)).elem hx45
              cases ea45
              obtain ⟨q45_A2, q45_c2, rfl, q45_0, q45_1, q45_2, q45_3⟩ := open_diskstep (x0 := x45.1) (x1 := x45.2.1) (x2 := x45.2.2.1) (x3 := x45.2.2.2) hre45
              simp only [inK] at q45_0
              simp only [inK] at q45_1
              have q45_r2 := Rd.room q45_2
              simp only [inK] at q45_3
              refine VO.y rfl (.ixI 0 rfl rfl tsl63 rfl (by exact fin2_dStart_ok)) ?_
              refine VO.y rfl (.ldA 143 rfl tk98 rfl hce45) ?_
              refine VO.alloc 147 rfl tz98 (fun g46 => ?_)
              refine VO.store (k := 4) (c' := [Value.int .i64 (x45.1), Value.int .i64 (x45.2.1), Value.slice q45_A2 (x45.2.2.1.length) (q45_c2), Value.int .i64 (x45.2.2.2)]) 147 rfl rfl (.inl tk98) rfl rfl rfl rfl rfl ?_
              refine VO.kp [147, 144, 139, 140, 141, 142, 143, 0] [(147, mone g46 (.cells [Value.int .i64 (x45.1), Value.int .i64 (x45.2.1), Value.slice q45_A2 (x45.2.2.1.length) (q45_c2), Value.int .i64 (x45.2.2.2)].toArray 98 (0, 0))), (144, mone g0 (.cells [Value.bool ((settleD d0 (min d1 ((d0.2.2.2.2.2.2.length : Nat) : Int)).toNat).1), Value.bool ((settleD d0 (min d1 ((d0.2.2.2.2.2.2.length : Nat) : Int)).toNat).2.1), Value.bool ((settleD d0 (min d1 ((d0.2.2.2.2.2.2.length : Nat) : Int)).toNat).2.2.1), Value.int .i64 ((settleD d0 (min d1 ((d0.2.2.2.2.2.2.length : Nat) : Int)).toNat).2.2.2.1), Value.int .i64 ((settleD d0 (min d1 ((d0.2.2.2.2.2.2.length : Nat) : Int)).toNat).2.2.2.2.1), Value.slice q38_A5 ((((settleD d0 (min d1 ((d0.2.2.2.2.2.2.length : Nat) : Int)).toNat).2.2.2.2.2.1).1).length) (q38_c5), Value.slice q38_A6 ((((settleD d0 (min d1 ((d0.2.2.2.2.2.2.length : Nat) : Int)).toNat).2.2.2.2.2.1).2.1).length) (q38_c6), Value.slice q38_A7 ((((settleD d0 (min d1 ((d0.2.2.2.2.2.2.length : Nat) : Int)).toNat).2.2.2.2.2.1).2.2.1).length) (q38_c7), Value.slice q38_A8 ((((settleD d0 (min d1 ((d0.2.2.2.2.2.2.length : Nat) : Int)).toNat).2.2.2.2.2.1).2.2.2).length) (q38_c8), Value.slice (some ⟨gg45, oo45, none⟩) (((settleD d0 (min d1 ((d0.2.2.2.2.2.2.length : Nat) : Int)).toNat).2.2.2.2.2.2).length) (q38_c9)].toArray q38_E (0, 0))), (139, q38_n5), (140, q38_n6), (141, q38_n7), (142, q38_n8), (143, q38_n9), (0, mout (wm W) (m0))] ?_
              refine VO.k8 0 1 2 6 7 8 11 49 ?_
              refine VC.rs ?_
              have hxe : x45 = x35 := Option.some.inj (hx45.symm.trans hx35)
              subst hxe
              refine VO.y rfl (.fa rfl tst98 rfl) ?_
              refine VO.y rfl (.ld1 147 rfl tk22 rfl (cellsAt_one rfl rfl)) ?_
              refine VO.mv ?_
              refine VO.y rfl (.fa rfl tst98 rfl) ?_
              refine VO.y rfl (.ld1 147 rfl tk22 rfl (cellsAt_one rfl rfl)) ?_
              refine VO.y rfl (.lenS rfl tsl22) ?_
              refine VO.y rfl (.sub rfl rfl rfl ⟨by exact fin2_dStart_ok, by exact fin2_dStart_ok⟩) ?_
              refine VO.y rfl (.minM rfl rfl) ?_
              have hs48 := q45_2.pre (j := ((min d2 (((x45.2.2.1.length : Nat) : Int) - 1)).toNat)) (by exact fin2_dStart_ok)
              refine VO.y rfl (.slHI ((min d2 (((x45.2.2.1.length : Nat) : Int) - 1)).toNat) rfl rfl tsl22 (by exact fin2_dStart_ok) (by exact fin2_dStart_ok)) ?_
              refine VO.y rfl (.fa rfl tst98 rfl) ?_
              refine VO.store (k := 1) (c' := [Value.int .i64 (x45.1), Value.int .i64 (x45.2.1), Value.slice q45_A2 ((min d2 (((x45.2.2.1.length : Nat) : Int) - 1)).toNat) (q45_c2), Value.int .i64 (x45.2.2.2)]) 147 rfl rfl (.inr ⟨tk22, rfl⟩) rfl rfl rfl rfl rfl ?_
              refine VO.k8 0 1 2 6 7 8 11 49 ?_
              refine VC.regD _ 14 [(0, true), (1, true), (2, true), (3, true), (4, true), (5, true), (6, true), (7, true), (8, true), (9, true), (10, true), (12, true), (13, true), (11, false)] follows (by kernel_rfl) (fun _ h => h.sub [147, 144, 143, 0]) ?_
              refine VD.y rfl rfl (.inl rfl) (.mv rfl) ?_
              refine VD.y rfl rfl (.inl rfl) (.fa rfl tst98 rfl) ?_
              refine VD.y rfl rfl (.inl rfl) (.ld1 147 rfl tk3 rfl (cellsAt_one rfl rfl)) ?_
              refine VD.y rfl rfl (.inl rfl) (.mv rfl) ?_
              refine VD.y rfl rfl (.inl rfl) (.fa rfl tst98 rfl) ?_
              refine VD.y rfl rfl (.inl rfl) (.ld1 147 rfl tk3 rfl (cellsAt_one rfl rfl)) ?_
              refine VD.y rfl rfl (.inl rfl) (.nilp rfl) ?_
              refine VD.y rfl rfl (.inl rfl) (.fa rfl tst65 rfl) ?_
              rcases (show x45.2.1 = (0 : Int) ∨ x45.2.1 = (1 : Int) ∨ x45.2.1 = (2 : Int) ∨ x45.2.1 = (3 : Int) from by exact fin2_dStart_ok) with hi49 | hi49 | hi49 | hi49
              · -- FFFFTT0
                refine VD.y rfl rfl (.inl rfl) (.ixa (i := 0) (o := 5) rfl rfl tar62 hi49 rfl rfl) ?_
                refine VD.y rfl rfl (.inl rfl) (.ld1 144 rfl tk22 rfl (cellsAt_one rfl rfl)) ?_
                refine VD.y rfl rfl (.inl rfl) (.ldA 147 rfl tk98 rfl (cellsAt_one rfl rfl)) ?_
                refine VD.y rfl rfl (.inl rfl) (.nilp rfl) ?_
                refine VD.y rfl rfl (.inl rfl) (.fa rfl tst65 rfl) ?_
                refine VD.call 139 rfl rfl (.inl rfl) fnOk63 rfl rfl (fun _ _ h => h.sub [147, 144, 143, 0]) (fun W hW => dDone_ok W (hW.at (i := 139) rfl) (OwnL.ow (Ow.ownl q38_5 rfl mnil) rfl) (mk_diskstep (m := mout (wm W) (q38_n5)) x45.1 x45.2.1 ((x45.2.2.1).take ((min d2 (((x45.2.2.1.length : Nat) : Int) - 1)).toNat)) x45.2.2.2 (by simp only [inK]; (exact fin2_dStart_ok)) (by simp only [inK]; (exact fin2_dStart_ok)) (Rd.mono hs48 (hW.out (i := 139) (j := 143) rfl rfl)) (by simp only [inK]; (exact fin2_dStart_ok))) (by intro h_; omega) (by (have h_ := (start_good (by assumption) ‹_[0]? = some _›).2.2; first | (rw [getF0 ‹_ = (0 : Int)›] at h_; simp only [List.length_take]; omega) | (rw [getF1 ‹_ = (1 : Int)›] at h_; simp only [List.length_take]; omega) | (rw [getF2 ‹_ = (2 : Int)›] at h_; simp only [List.length_take]; omega) | (rw [getF3 ‹_ = (3 : Int)›] at h_; simp only [List.length_take]; omega)))) (fun v50 m50 hv50 => ?_)
                try dsimp only at hv50
                obtain ⟨s50_0, rfl, f50_0⟩ := hv50
                obtain ⟨A50_0, c50_0, eq50_0, l50_0, k50_0⟩ := f50_0.slice
                subst eq50_0
                simp only [maxLen] at k50_0
                refine VD.nil rfl ?_ rfl
                refine VO.y rfl (.ixa (i := 0) (o := 5) rfl rfl tar62 hi49 rfl rfl) ?_
                refine VO.store (k := 1) 144 rfl rfl (.inr ⟨tk22, rfl⟩) rfl rfl rfl rfl rfl ?_
                refine VO.k8 0 1 2 6 7 8 11 49 ?_
                refine outN ?_
                refine VC.rs ?_
                refine VO.mv ?_
                refine VO.mv ?_
                refine VO.mv ?_
                refine VO.mv ?_
                refine VO.y rfl (.nilp rfl) ?_
                refine VO.y rfl (.fa rfl tst65 rfl) ?_
                refine VO.store (k := 1) 144 rfl rfl (.inr ⟨tk63, rfl⟩) rfl rfl rfl rfl rfl ?_
                refine VO.y rfl (.nilp rfl) ?_
                refine VO.y rfl (.fa rfl tst65 rfl) ?_
                refine VO.store (k := 1) 144 rfl rfl (.inr ⟨tk4, rfl⟩) rfl rfl rfl rfl rfl ?_
                refine VO.y rfl (.nilp rfl) ?_
                refine VO.y rfl (.fa rfl tst65 rfl) ?_
                refine VO.store (k := 1) 144 rfl rfl (.inr ⟨tk4, rfl⟩) rfl rfl rfl rfl rfl ?_
                refine VO.y rfl (.nilp rfl) ?_
                refine VO.y rfl (.fa rfl tst65 rfl) ?_
                refine VO.store (k := 1) 144 rfl rfl (.inr ⟨tk3, rfl⟩) rfl rfl rfl rfl rfl ?_
                refine VO.clsP 151 [144, 139, 140, 141, 142] rfl (fun hg51 => (mkP_diskDisk ((settleD d0 (min d1 ((d0.2.2.2.2.2.2.length : Nat) : Int)).toNat).1) false false 0 ((settleD d0 (min d1 ((d0.2.2.2.2.2.2.length : Nat) : Int)).toNat).2.2.2.2.1) (doneB (((settleD d0 (min d1 ((d0.2.2.2.2.2.2.length : Nat) : Int)).toNat).2.2.2.2.2.1).1) (x45.1, x45.2.1, (x45.2.2.1).take ((min d2 (((x45.2.2.1.length : Nat) : Int) - 1)).toNat), x45.2.2.2)) (((settleD d0 (min d1 ((d0.2.2.2.2.2.2.length : Nat) : Int)).toNat).2.2.2.2.2.1).2.1) (((settleD d0 (min d1 ((d0.2.2.2.2.2.2.length : Nat) : Int)).toNat).2.2.2.2.2.1).2.2.1) (((settleD d0 (min d1 ((d0.2.2.2.2.2.2.length : Nat) : Int)).toNat).2.2.2.2.2.1).2.2.2) [] (Seps.nilAt 5 hg51) (by simp only [inK]; (exact fin2_dStart_ok)) (by simp only [inK]; (exact fin2_dStart_ok)) (OwnL.ow (Ow.ownl f50_0 rfl mnil) rfl) (OwnL.ow (Ow.ownl q38_6 rfl mnil) rfl) (OwnL.ow (Ow.ownl q38_7 rfl mnil) rfl) (OwnL.ow (Ow.ownl q38_8 rfl mnil) rfl) (Ow.nil _ _))) (fun mc51 ho51 => ?_)
                refine VO.kp [151, 147, 143, 0] [(151, mc51), (147, mone g46 (.cells [Value.int .i64 (x45.1), Value.int .i64 (x45.2.1), Value.slice q45_A2 ((min d2 (((x45.2.2.1.length : Nat) : Int) - 1)).toNat) (q45_c2), Value.int .i64 (x45.2.2.2)].toArray 98 (0, 0))), (143, q38_n9), (0, mout (wm W) (m0))] ?_
                refine VO.k8 0 1 2 6 7 8 11 49 ?_
                refine VC.rs ?_
                refine VO.as ?_
                refine VO.k8 0 1 2 6 7 8 11 49 ?_
                refine VC.ret ?_
                refine ⟨_, _, res_run (rs := [.tmp 6]) rfl (.tmp rfl .nil), fun W_ hI => out_of (l := [mc51]) hI [151] rfl rfl (mle_refl _) (fun hS_ => ?_)⟩
                dsimp only [packV]
                have hm0_ : ((dStart d0 d1 d2).1 : DdiskDisk) = ((settleD d0 (min d1 ((d0.2.2.2.2.2.2.length : Nat) : Int)).toNat).1, false, false, 0, (settleD d0 (min d1 ((d0.2.2.2.2.2.2.length : Nat) : Int)).toNat).2.2.2.2.1, (doneB (((settleD d0 (min d1 ((d0.2.2.2.2.2.2.length : Nat) : Int)).toNat).2.2.2.2.2.1).1) (x45.1, x45.2.1, (x45.2.2.1).take ((min d2 (((x45.2.2.1.length : Nat) : Int) - 1)).toNat), x45.2.2.2), ((settleD d0 (min d1 ((d0.2.2.2.2.2.2.length : Nat) : Int)).toNat).2.2.2.2.2.1).2), []) := by first | rfl | (exact fin0_dStart_ok)
                refine ⟨?_, ?_⟩
                rotate_left
                · rw [hm0_]; exact (Ow.up ho51 (hS_.1 _ (.head _)))
                all_goals (first | rfl | (exact fin0_dStart_ok))
              · -- FFFFTT1
                refine VD.y rfl rfl (.inl rfl) (.ixa (i := 1) (o := 6) rfl rfl tar62 hi49 rfl rfl) ?_
                refine VD.y rfl rfl (.inl rfl) (.ld1 144 rfl tk22 rfl (cellsAt_one rfl rfl)) ?_
                refine VD.y rfl rfl (.inl rfl) (.ldA 147 rfl tk98 rfl (cellsAt_one rfl rfl)) ?_
                refine VD.y rfl rfl (.inl rfl) (.nilp rfl) ?_
                refine VD.y rfl rfl (.inl rfl) (.fa rfl tst65 rfl) ?_
                refine VD.call 140 rfl rfl (.inl rfl) fnOk63 rfl rfl (fun _ _ h => h.sub [147, 144, 143, 0]) (fun W hW => dDone_ok W (hW.at (i := 140) rfl) (OwnL.ow (Ow.ownl q38_6 rfl mnil) rfl) (mk_diskstep (m := mout (wm W) (q38_n6)) x45.1 x45.2.1 ((x45.2.2.1).take ((min d2 (((x45.2.2.1.length : Nat) : Int) - 1)).toNat)) x45.2.2.2 (by simp only [inK]; (exact fin2_dStart_ok)) (by simp only [inK]; (exact fin2_dStart_ok)) (Rd.mono hs48 (hW.out (i := 140) (j := 143) rfl rfl)) (by simp only [inK]; (exact fin2_dStart_ok))) (by intro h_; omega) (by (have h_ := (start_good (by assumption) ‹_[0]? = some _›).2.2; first | (rw [getF0 ‹_ = (0 : Int)›] at h_; simp only [List.length_take]; omega) | (rw [getF1 ‹_ = (1 : Int)›] at h_; simp only [List.length_take]; omega) | (rw [getF2 ‹_ = (2 : Int)›] at h_; simp only [List.length_take]; omega) | (rw [getF3 ‹_ = (3 : Int)›] at h_; simp only [List.length_take]; omega)))) (fun v52 m52 hv52 => ?_)
                try dsimp only at hv52
                obtain ⟨s52_0, rfl, f52_0⟩ := hv52
                obtain ⟨A52_0, c52_0, eq52_0, l52_0, k52_0⟩ := f52_0.slice
                subst eq52_0
                simp only [maxLen] at k52_0
                refine VD.nil rfl ?_ rfl
                refine VO.y rfl (.ixa (i := 1) (o := 6) rfl rfl tar62 hi49 rfl rfl) ?_
                refine VO.store (k := 1) 144 rfl rfl (.inr ⟨tk22, rfl⟩) rfl rfl rfl rfl rfl ?_
                refine VO.k8 0 1 2 6 7 8 11 49 ?_
                refine outN ?_
                refine VC.rs ?_
                refine VO.mv ?_
                refine VO.mv ?_
                refine VO.mv ?_
                refine VO.mv ?_
                refine VO.y rfl (.nilp rfl) ?_
                refine VO.y rfl (.fa rfl tst65 rfl) ?_
                refine VO.store (k := 1) 144 rfl rfl (.inr ⟨tk63, rfl⟩) rfl rfl rfl rfl rfl ?_
                refine VO.y rfl (.nilp rfl) ?_
                refine VO.y rfl (.fa rfl tst65 rfl) ?_
                refine VO.store (k := 1) 144 rfl rfl (.inr ⟨tk4, rfl⟩) rfl rfl rfl rfl rfl ?_
                refine VO.y rfl (.nilp rfl) ?_
                refine VO.y rfl (.fa rfl tst65 rfl) ?_
                refine VO.store (k := 1) 144 rfl rfl (.inr ⟨tk4, rfl⟩) rfl rfl rfl rfl rfl ?_
                refine VO.y rfl (.nilp rfl) ?_
                refine VO.y rfl (.fa rfl tst65 rfl) ?_
                refine VO.store (k := 1) 144 rfl rfl (.inr ⟨tk3, rfl⟩) rfl rfl rfl rfl rfl ?_
                refine VO.clsP 153 [144, 139, 140, 141, 142] rfl (fun hg53 => (mkP_diskDisk ((settleD d0 (min d1 ((d0.2.2.2.2.2.2.length : Nat) : Int)).toNat).1) false false 0 ((settleD d0 (min d1 ((d0.2.2.2.2.2.2.length : Nat) : Int)).toNat).2.2.2.2.1) (((settleD d0 (min d1 ((d0.2.2.2.2.2.2.length : Nat) : Int)).toNat).2.2.2.2.2.1).1) (doneB (((settleD d0 (min d1 ((d0.2.2.2.2.2.2.length : Nat) : Int)).toNat).2.2.2.2.2.1).2.1) (x45.1, x45.2.1, (x45.2.2.1).take ((min d2 (((x45.2.2.1.length : Nat) : Int) - 1)).toNat), x45.2.2.2)) (((settleD d0 (min d1 ((d0.2.2.2.2.2.2.length : Nat) : Int)).toNat).2.2.2.2.2.1).2.2.1) (((settleD d0 (min d1 ((d0.2.2.2.2.2.2.length : Nat) : Int)).toNat).2.2.2.2.2.1).2.2.2) [] (Seps.nilAt 5 hg53) (by simp only [inK]; (exact fin2_dStart_ok)) (by simp only [inK]; (exact fin2_dStart_ok)) (OwnL.ow (Ow.ownl q38_5 rfl mnil) rfl) (OwnL.ow (Ow.ownl f52_0 rfl mnil) rfl) (OwnL.ow (Ow.ownl q38_7 rfl mnil) rfl) (OwnL.ow (Ow.ownl q38_8 rfl mnil) rfl) (Ow.nil _ _))) (fun mc53 ho53 => ?_)
                refine VO.kp [153, 147, 143, 0] [(153, mc53), (147, mone g46 (.cells [Value.int .i64 (x45.1), Value.int .i64 (x45.2.1), Value.slice q45_A2 ((min d2 (((x45.2.2.1.length : Nat) : Int) - 1)).toNat) (q45_c2), Value.int .i64 (x45.2.2.2)].toArray 98 (0, 0))), (143, q38_n9), (0, mout (wm W) (m0))] ?_
                refine VO.k8 0 1 2 6 7 8 11 49 ?_
                refine VC.rs ?_
                refine VO.as ?_
                refine VO.k8 0 1 2 6 7 8 11 49 ?_
                refine VC.ret ?_
                refine ⟨_, _, res_run (rs := [.tmp 6]) rfl (.tmp rfl .nil), fun W_ hI => out_of (l := [mc53]) hI [153] rfl rfl (mle_refl _) (fun hS_ => ?_)⟩
                dsimp only [packV]
                have hm0_ : ((dStart d0 d1 d2).1 : DdiskDisk) = ((settleD d0 (min d1 ((d0.2.2.2.2.2.2.length : Nat) : Int)).toNat).1, false, false, 0, (settleD d0 (min d1 ((d0.2.2.2.2.2.2.length : Nat) : Int)).toNat).2.2.2.2.1, (((settleD d0 (min d1 ((d0.2.2.2.2.2.2.length : Nat) : Int)).toNat).2.2.2.2.2.1).1, doneB (((settleD d0 (min d1 ((d0.2.2.2.2.2.2.length : Nat) : Int)).toNat).2.2.2.2.2.1).2.1) (x45.1, x45.2.1, (x45.2.2.1).take ((min d2 (((x45.2.2.1.length : Nat) : Int) - 1)).toNat), x45.2.2.2), ((settleD d0 (min d1 ((d0.2.2.2.2.2.2.length : Nat) : Int)).toNat).2.2.2.2.2.1).2.2), []) := by first | rfl | (exact fin0_dStart_ok)
                refine ⟨?_, ?_⟩
                rotate_left
                · rw [hm0_]; exact (Ow.up ho53 (hS_.1 _ (.head _)))
                all_goals (first | rfl | (exact fin0_dStart_ok))
              · -- FFFFTT2
                refine VD.y rfl rfl (.inl rfl) (.ixa (i := 2) (o := 7) rfl rfl tar62 hi49 rfl rfl) ?_
                refine VD.y rfl rfl (.inl rfl) (.ld1 144 rfl tk22 rfl (cellsAt_one rfl rfl)) ?_
                refine VD.y rfl rfl (.inl rfl) (.ldA 147 rfl tk98 rfl (cellsAt_one rfl rfl)) ?_
                refine VD.y rfl rfl (.inl rfl) (.nilp rfl) ?_
                refine VD.y rfl rfl (.inl rfl) (.fa rfl tst65 rfl) ?_
                refine VD.call 141 rfl rfl (.inl rfl) fnOk63 rfl rfl (fun _ _ h => h.sub [147, 144, 143, 0]) (fun W hW => dDone_ok W (hW.at (i := 141) rfl) (OwnL.ow (Ow.ownl q38_7 rfl mnil) rfl) (mk_diskstep (m := mout (wm W) (q38_n7)) x45.1 x45.2.1 ((x45.2.2.1).take ((min d2 (((x45.2.2.1.length : Nat) : Int) - 1)).toNat)) x45.2.2.2 (by simp only [inK]; (exact fin2_dStart_ok)) (by simp only [inK]; (exact fin2_dStart_ok)) (Rd.mono hs48 (hW.out (i := 141) (j := 143) rfl rfl)) (by simp only [inK]; (exact fin2_dStart_ok))) (by intro h_; omega) (by (have h_ := (start_good (by assumption) ‹_[0]? = some _›).2.2; first | (rw [getF0 ‹_ = (0 : Int)›] at h_; simp only [List.length_take]; omega) | (rw [getF1 ‹_ = (1 : Int)›] at h_; simp only [List.length_take]; omega) | (rw [getF2 ‹_ = (2 : Int)›] at h_; simp only [List.length_take]; omega) | (rw [getF3 ‹_ = (3 : Int)›] at h_; simp only [List.length_take]; omega)))) (fun v54 m54 hv54 => ?_)
                try dsimp only at hv54
                obtain ⟨s54_0, rfl, f54_0⟩ := hv54
                obtain ⟨A54_0, c54_0, eq54_0, l54_0, k54_0⟩ := f54_0.slice
                subst eq54_0
                simp only [maxLen] at k54_0
                refine VD.nil rfl ?_ rfl
                refine VO.y rfl (.ixa (i := 2) (o := 7) rfl rfl tar62 hi49 rfl rfl) ?_
                refine VO.store (k := 1) 144 rfl rfl (.inr ⟨tk22, rfl⟩) rfl rfl rfl rfl rfl ?_
                refine VO.k8 0 1 2 6 7 8 11 49 ?_
                refine outN ?_
                refine VC.rs ?_
                refine VO.mv ?_
                refine VO.mv ?_
                refine VO.mv ?_
                refine VO.mv ?_
                refine VO.y rfl (.nilp rfl) ?_
                refine VO.y rfl (.fa rfl tst65 rfl) ?_
                refine VO.store (k := 1) 144 rfl rfl (.inr ⟨tk63, rfl⟩) rfl rfl rfl rfl rfl ?_
                refine VO.y rfl (.nilp rfl) ?_
                refine VO.y rfl (.fa rfl tst65 rfl) ?_
                refine VO.store (k := 1) 144 rfl rfl (.inr ⟨tk4, rfl⟩) rfl rfl rfl rfl rfl ?_
                refine VO.y rfl (.nilp rfl) ?_
                refine VO.y rfl (.fa rfl tst65 rfl) ?_
                refine VO.store (k := 1) 144 rfl rfl (.inr ⟨tk4, rfl⟩) rfl rfl rfl rfl rfl ?_
                refine VO.y rfl (.nilp rfl) ?_
                refine VO.y rfl (.fa rfl tst65 rfl) ?_
                refine VO.store (k := 1) 144 rfl rfl (.inr ⟨tk3, rfl⟩) rfl rfl rfl rfl rfl ?_
                refine VO.clsP 155 [144, 139, 140, 141, 142] rfl (fun hg55 => (mkP_diskDisk ((settleD d0 (min d1 ((d0.2.2.2.2.2.2.length : Nat) : Int)).toNat).1) false false 0 ((settleD d0 (min d1 ((d0.2.2.2.2.2.2.length : Nat) : Int)).toNat).2.2.2.2.1) (((settleD d0 (min d1 ((d0.2.2.2.2.2.2.length : Nat) : Int)).toNat).2.2.2.2.2.1).1) (((settleD d0 (min d1 ((d0.2.2.2.2.2.2.length : Nat) : Int)).toNat).2.2.2.2.2.1).2.1) (doneB (((settleD d0 (min d1 ((d0.2.2.2.2.2.2.length : Nat) : Int)).toNat).2.2.2.2.2.1).2.2.1) (x45.1, x45.2.1, (x45.2.2.1).take ((min d2 (((x45.2.2.1.length : Nat) : Int) - 1)).toNat), x45.2.2.2)) (((settleD d0 (min d1 ((d0.2.2.2.2.2.2.length : Nat) : Int)).toNat).2.2.2.2.2.1).2.2.2) [] (Seps.nilAt 5 hg55) (by simp only [inK]; (exact fin2_dStart_ok)) (by simp only [inK]; (exact fin2_dStart_ok)) (OwnL.ow (Ow.ownl q38_5 rfl mnil) rfl) (OwnL.ow (Ow.ownl q38_6 rfl mnil) rfl) (OwnL.ow (Ow.ownl f54_0 rfl mnil) rfl) (OwnL.ow (Ow.ownl q38_8 rfl mnil) rfl) (Ow.nil _ _))) (fun mc55 ho55 => ?_)
                refine VO.kp [155, 147, 143, 0] [(155, mc55), (147, mone g46 (.cells [Value.int .i64 (x45.1), Value.int .i64 (x45.2.1), Value.slice q45_A2 ((min d2 (((x45.2.2.1.length : Nat) : Int) - 1)).toNat) (q45_c2), Value.int .i64 (x45.2.2.2)].toArray 98 (0, 0))), (143, q38_n9), (0, mout (wm W) (m0))] ?_
                refine VO.k8 0 1 2 6 7 8 11 49 ?_
                refine VC.rs ?_
                refine VO.as ?_
                refine VO.k8 0 1 2 6 7 8 11 49 ?_
                refine VC.ret ?_
                refine ⟨_, _, res_run (rs := [.tmp 6]) rfl (.tmp rfl .nil), fun W_ hI => out_of (l := [mc55]) hI [155] rfl rfl (mle_refl _) (fun hS_ => ?_)⟩
                dsimp only [packV]
                have hm0_ : ((dStart d0 d1 d2).1 : DdiskDisk) = ((settleD d0 (min d1 ((d0.2.2.2.2.2.2.length : Nat) : Int)).toNat).1, false, false, 0, (settleD d0 (min d1 ((d0.2.2.2.2.2.2.length : Nat) : Int)).toNat).2.2.2.2.1, (((settleD d0 (min d1 ((d0.2.2.2.2.2.2.length : Nat) : Int)).toNat).2.2.2.2.2.1).1, ((settleD d0 (min d1 ((d0.2.2.2.2.2.2.length : Nat) : Int)).toNat).2.2.2.2.2.1).2.1, doneB (((settleD d0 (min d1 ((d0.2.2.2.2.2.2.length : Nat) : Int)).toNat).2.2.2.2.2.1).2.2.1) (x45.1, x45.2.1, (x45.2.2.1).take ((min d2 (((x45.2.2.1.length : Nat) : Int) - 1)).toNat), x45.2.2.2), ((settleD d0 (min d1 ((d0.2.2.2.2.2.2.length : Nat) : Int)).toNat).2.2.2.2.2.1).2.2.2), []) := by first | rfl | (exact fin0_dStart_ok)
                refine ⟨?_, ?_⟩
                rotate_left
                · rw [hm0_]; exact (Ow.up ho55 (hS_.1 _ (.head _)))
                all_goals (first | rfl | (exact fin0_dStart_ok))
              · -- FFFFTT3
                refine VD.y rfl rfl (.inl rfl) (.ixa (i := 3) (o := 8) rfl rfl tar62 hi49 rfl rfl) ?_
                refine VD.y rfl rfl (.inl rfl) (.ld1 144 rfl tk22 rfl (cellsAt_one rfl rfl)) ?_
                refine VD.y rfl rfl (.inl rfl) (.ldA 147 rfl tk98 rfl (cellsAt_one rfl rfl)) ?_
                refine VD.y rfl rfl (.inl rfl) (.nilp rfl) ?_
                refine VD.y rfl rfl (.inl rfl) (.fa rfl tst65 rfl) ?_
                refine VD.call 142 rfl rfl (.inl rfl) fnOk63 rfl rfl (fun _ _ h => h.sub [147, 144, 143, 0]) (fun W hW => dDone_ok W (hW.at (i := 142) rfl) (OwnL.ow (Ow.ownl q38_8 rfl mnil) rfl) (mk_diskstep (m := mout (wm W) (q38_n8)) x45.1 x45.2.1 ((x45.2.2.1).take ((min d2 (((x45.2.2.1.length : Nat) : Int) - 1)).toNat)) x45.2.2.2 (by simp only [inK]; (exact fin2_dStart_ok)) (by simp only [inK]; (exact fin2_dStart_ok)) (Rd.mono hs48 (hW.out (i := 142) (j := 143) rfl rfl)) (by simp only [inK]; (exact fin2_dStart_ok))) (by intro h_; omega) (by (have h_ := (start_good (by assumption) ‹_[0]? = some _›).2.2; first | (rw [getF0 ‹_ = (0 : Int)›] at h_; simp only [List.length_take]; omega) | (rw [getF1 ‹_ = (1 : Int)›] at h_; simp only [List.length_take]; omega) | (rw [getF2 ‹_ = (2 : Int)›] at h_; simp only [List.length_take]; omega) | (rw [getF3 ‹_ = (3 : Int)›] at h_; simp only [List.length_take]; omega)))) (fun v56 m56 hv56 => ?_)
                try dsimp only at hv56
                obtain ⟨s56_0, rfl, f56_0⟩ := hv56
                obtain ⟨A56_0, c56_0, eq56_0, l56_0, k56_0⟩ := f56_0.slice
                subst eq56_0
                simp only [maxLen] at k56_0
                refine VD.nil rfl ?_ rfl
                refine VO.y rfl (.ixa (i := 3) (o := 8) rfl rfl tar62 hi49 rfl rfl) ?_
                refine VO.store (k := 1) 144 rfl rfl (.inr ⟨tk22, rfl⟩) rfl rfl rfl rfl rfl ?_
                refine VO.k8 0 1 2 6 7 8 11 49 ?_
                refine outN ?_
                refine VC.rs ?_
                refine VO.mv ?_
                refine VO.mv ?_
                refine VO.mv ?_
                refine VO.mv ?_
                refine VO.y rfl (.nilp rfl) ?_
                refine VO.y rfl (.fa rfl tst65 rfl) ?_
                refine VO.store (k := 1) 144 rfl rfl (.inr ⟨tk63, rfl⟩) rfl rfl rfl rfl rfl ?_
                refine VO.y rfl (.nilp rfl) ?_
                refine VO.y rfl (.fa rfl tst65 rfl) ?_
                refine VO.store (k := 1) 144 rfl rfl (.inr ⟨tk4, rfl⟩) rfl rfl rfl rfl rfl ?_
                refine VO.y rfl (.nilp rfl) ?_
                refine VO.y rfl (.fa rfl tst65 rfl) ?_
                refine VO.store (k := 1) 144 rfl rfl (.inr ⟨tk4, rfl⟩) rfl rfl rfl rfl rfl ?_
                refine VO.y rfl (.nilp rfl) ?_
                refine VO.y rfl (.fa rfl tst65 rfl) ?_
                refine VO.store (k := 1) 144 rfl rfl (.inr ⟨tk3, rfl⟩) rfl rfl rfl rfl rfl ?_
                refine VO.clsP 157 [144, 139, 140, 141, 142] rfl (fun hg57 => (mkP_diskDisk ((settleD d0 (min d1 ((d0.2.2.2.2.2.2.length : Nat) : Int)).toNat).1) false false 0 ((settleD d0 (min d1 ((d0.2.2.2.2.2.2.length : Nat) : Int)).toNat).2.2.2.2.1) (((settleD d0 (min d1 ((d0.2.2.2.2.2.2.length : Nat) : Int)).toNat).2.2.2.2.2.1).1) (((settleD d0 (min d1 ((d0.2.2.2.2.2.2.length : Nat) : Int)).toNat).2.2.2.2.2.1).2.1) (((settleD d0 (min d1 ((d0.2.2.2.2.2.2.length : Nat) : Int)).toNat).2.2.2.2.2.1).2.2.1) (doneB (((settleD d0 (min d1 ((d0.2.2.2.2.2.2.length : Nat) : Int)).toNat).2.2.2.2.2.1).2.2.2) (x45.1, x45.2.1, (x45.2.2.1).take ((min d2 (((x45.2.2.1.length : Nat) : Int) - 1)).toNat), x45.2.2.2)) [] (Seps.nilAt 5 hg57) (by simp only [inK]; (exact fin2_dStart_ok)) (by simp only [inK]; (exact fin2_dStart_ok)) (OwnL.ow (Ow.ownl q38_5 rfl mnil) rfl) (OwnL.ow (Ow.ownl q38_6 rfl mnil) rfl) (OwnL.ow (Ow.ownl q38_7 rfl mnil) rfl) (OwnL.ow (Ow.ownl f56_0 rfl mnil) rfl) (Ow.nil _ _))) (fun mc57 ho57 => ?_)
                refine VO.kp [157, 147, 143, 0] [(157, mc57), (147, mone g46 (.cells [Value.int .i64 (x45.1), Value.int .i64 (x45.2.1), Value.slice q45_A2 ((min d2 (((x45.2.2.1.length : Nat) : Int) - 1)).toNat) (q45_c2), Value.int .i64 (x45.2.2.2)].toArray 98 (0, 0))), (143, q38_n9), (0, mout (wm W) (m0))] ?_
                refine VO.k8 0 1 2 6 7 8 11 49 ?_
                refine VC.rs ?_
                refine VO.as ?_
                refine VO.k8 0 1 2 6 7 8 11 49 ?_
                refine VC.ret ?_
                refine ⟨_, _, res_run (rs := [.tmp 6]) rfl (.tmp rfl .nil), fun W_ hI => out_of (l := [mc57]) hI [157] rfl rfl (mle_refl _) (fun hS_ => ?_)⟩
                dsimp only [packV]
                have hm0_ : ((dStart d0 d1 d2).1 : DdiskDisk) = ((settleD d0 (min d1 ((d0.2.2.2.2.2.2.length : Nat) : Int)).toNat).1, false, false, 0, (settleD d0 (min d1 ((d0.2.2.2.2.2.2.length : Nat) : Int)).toNat).2.2.2.2.1, (((settleD d0 (min d1 ((d0.2.2.2.2.2.2.length : Nat) : Int)).toNat).2.2.2.2.2.1).1, ((settleD d0 (min d1 ((d0.2.2.2.2.2.2.length : Nat) : Int)).toNat).2.2.2.2.2.1).2.1, ((settleD d0 (min d1 ((d0.2.2.2.2.2.2.length : Nat) : Int)).toNat).2.2.2.2.2.1).2.2.1, doneB (((settleD d0 (min d1 ((d0.2.2.2.2.2.2.length : Nat) : Int)).toNat).2.2.2.2.2.1).2.2.2) (x45.1, x45.2.1, (x45.2.2.1).take ((min d2 (((x45.2.2.1.length : Nat) : Int) - 1)).toNat), x45.2.2.2)), []) := by first | rfl | (exact fin0_dStart_ok)
                refine ⟨?_, ?_⟩
                rotate_left
                · rw [hm0_]; exact (Ow.up ho57 (hS_.1 _ (.head _)))
                all_goals (first | rfl | (exact fin0_dStart_ok))
            · -- FFFFTF
              refine VC.skip ?_
              refine outN ?_
              refine VC.rs ?_
              refine VO.mv ?_
              refine VO.mv ?_
              refine VO.mv ?_
              refine VO.mv ?_
              refine VO.y rfl (.nilp rfl) ?_
              refine VO.y rfl (.fa rfl tst65 rfl) ?_
              obtain ⟨q58_E, q58_A5, q58_c5, q58_A6, q58_c6, q58_A7, q58_c7, q58_A8, q58_c8, q58_A9, q58_c9, q58_n5, q58_n6, q58_n7, q58_n8, q58_n9, _, q58_S, q58_3, q58_4, q58_5, q58_6, q58_7, q58_8, q58_9⟩ := openP_diskDisk (x0 := (settleD d0 (min d1 ((d0.2.2.2.2.2.2.length : Nat) : Int)).toNat).1) (x1 := (settleD d0 (min d1 ((d0.2.2.2.2.2.2.length : Nat) : Int)).toNat).2.1) (x2 := (settleD d0 (min d1 ((d0.2.2.2.2.2.2.length : Nat) : Int)).toNat).2.2.1) (x3 := (settleD d0 (min d1 ((d0.2.2.2.2.2.2.length : Nat) : Int)).toNat).2.2.2.1) (x4 := (settleD d0 (min d1 ((d0.2.2.2.2.2.2.length : Nat) : Int)).toNat).2.2.2.2.1) (x5 := ((settleD d0 (min d1 ((d0.2.2.2.2.2.2.length : Nat) : Int)).toNat).2.2.2.2.2.1).1) (x6 := ((settleD d0 (min d1 ((d0.2.2.2.2.2.2.length : Nat) : Int)).toNat).2.2.2.2.2.1).2.1) (x7 := ((settleD d0 (min d1 ((d0.2.2.2.2.2.2.length : Nat) : Int)).toNat).2.2.2.2.2.1).2.2.1) (x8 := ((settleD d0 (min d1 ((d0.2.2.2.2.2.2.length : Nat) : Int)).toNat).2.2.2.2.2.1).2.2.2) (x9 := (settleD d0 (min d1 ((d0.2.2.2.2.2.2.length : Nat) : Int)).toNat).2.2.2.2.2.2) ho36
              simp only [inK] at q58_3
              simp only [inK] at q58_4
              have q58_r5 := q58_5.rm
              have q58_r6 := q58_6.rm
              have q58_r7 := q58_7.rm
              have q58_r8 := q58_8.rm
              have q58_r9 := q58_9.rm
              refine VO.inv _ (fun _ h => h.parts (i := 136) rfl q58_S [164, 159, 160, 161, 162, 163]) ?_
              refine VO.store (k := 1) 164 rfl rfl (.inr ⟨tk63, rfl⟩) rfl rfl rfl rfl rfl ?_
              refine VO.y rfl (.nilp rfl) ?_
              refine VO.y rfl (.fa rfl tst65 rfl) ?_
              refine VO.store (k := 1) 164 rfl rfl (.inr ⟨tk4, rfl⟩) rfl rfl rfl rfl rfl ?_
              refine VO.y rfl (.nilp rfl) ?_
              refine VO.y rfl (.fa rfl tst65 rfl) ?_
              refine VO.store (k := 1) 164 rfl rfl (.inr ⟨tk4, rfl⟩) rfl rfl rfl rfl rfl ?_
              refine VO.y rfl (.nilp rfl) ?_
              refine VO.y rfl (.fa rfl tst65 rfl) ?_
              refine VO.store (k := 1) 164 rfl rfl (.inr ⟨tk3, rfl⟩) rfl rfl rfl rfl rfl ?_
              refine VO.clsP 165 [164, 159, 160, 161, 162] rfl (fun hg65 => (mkP_diskDisk ((settleD d0 (min d1 ((d0.2.2.2.2.2.2.length : Nat) : Int)).toNat).1) false false 0 ((settleD d0 (min d1 ((d0.2.2.2.2.2.2.length : Nat) : Int)).toNat).2.2.2.2.1) (((settleD d0 (min d1 ((d0.2.2.2.2.2.2.length : Nat) : Int)).toNat).2.2.2.2.2.1).1) (((settleD d0 (min d1 ((d0.2.2.2.2.2.2.length : Nat) : Int)).toNat).2.2.2.2.2.1).2.1) (((settleD d0 (min d1 ((d0.2.2.2.2.2.2.length : Nat) : Int)).toNat).2.2.2.2.2.1).2.2.1) (((settleD d0 (min d1 ((d0.2.2.2.2.2.2.length : Nat) : Int)).toNat).2.2.2.2.2.1).2.2.2) [] (Seps.nilAt 5 hg65) (by simp only [inK]; (exact fin2_dStart_ok)) (by simp only [inK]; (exact fin2_dStart_ok)) (OwnL.ow (Ow.ownl q58_5 rfl mnil) rfl) (OwnL.ow (Ow.ownl q58_6 rfl mnil) rfl) (OwnL.ow (Ow.ownl q58_7 rfl mnil) rfl) (OwnL.ow (Ow.ownl q58_8 rfl mnil) rfl) (Ow.nil _ _))) (fun mc65 ho65 => ?_)
              refine VO.kp [165, 0] [(165, mc65), (0, mout (wm W) (m0))] ?_
              refine VO.k7 0 1 2 6 8 11 49 ?_
              refine VC.rs ?_
              refine VO.as ?_
              refine VO.k7 0 1 2 6 8 11 49 ?_
              refine VC.ret ?_
              refine ⟨_, _, res_run (rs := [.tmp 6]) rfl (.tmp rfl .nil), fun W_ hI => out_of (l := [mc65]) hI [165] rfl rfl (mle_refl _) (fun hS_ => ?_)⟩
              dsimp only [packV]
              have hm0_ : ((dStart d0 d1 d2).1 : DdiskDisk) = ((settleD d0 (min d1 ((d0.2.2.2.2.2.2.length : Nat) : Int)).toNat).1, false, false, 0, (settleD d0 (min d1 ((d0.2.2.2.2.2.2.length : Nat) : Int)).toNat).2.2.2.2.1, ((settleD d0 (min d1 ((d0.2.2.2.2.2.2.length : Nat) : Int)).toNat).2.2.2.2.2.1), []) := by first | rfl | (exact fin0_dStart_ok)
              refine ⟨?_, ?_⟩
              rotate_left
              · rw [hm0_]; exact (Ow.up ho65 (hS_.1 _ (.head _)))
              all_goals (first | rfl | (exact fin0_dStart_ok))
          · -- FFFFF
            refine VO.gN ?_
            refine VO.gN ?_
            refine VO.gN ?_
            refine VO.gN ?_
            refine VO.gN ?_
            refine VO.gN ?_
            refine VO.gN ?_
            refine VO.gN ?_
            refine VO.y rfl (.pF rfl rfl) ?_
            refine VO.clsP 166 [133, 128, 129, 130, 131, 132] rfl (fun hg66 => (show Ow (.ptr TdiskDisk) _ _ (_, (settleD d0 (min d1 ((d0.2.2.2.2.2.2.length : Nat) : Int)).toNat)) from (mkP_diskDisk ((settleD d0 (min d1 ((d0.2.2.2.2.2.2.length : Nat) : Int)).toNat).1) ((settleD d0 (min d1 ((d0.2.2.2.2.2.2.length : Nat) : Int)).toNat).2.1) ((settleD d0 (min d1 ((d0.2.2.2.2.2.2.length : Nat) : Int)).toNat).2.2.1) ((settleD d0 (min d1 ((d0.2.2.2.2.2.2.length : Nat) : Int)).toNat).2.2.2.1) ((settleD d0 (min d1 ((d0.2.2.2.2.2.2.length : Nat) : Int)).toNat).2.2.2.2.1) (((settleD d0 (min d1 ((d0.2.2.2.2.2.2.length : Nat) : Int)).toNat).2.2.2.2.2.1).1) (((settleD d0 (min d1 ((d0.2.2.2.2.2.2.length : Nat) : Int)).toNat).2.2.2.2.2.1).2.1) (((settleD d0 (min d1 ((d0.2.2.2.2.2.2.length : Nat) : Int)).toNat).2.2.2.2.2.1).2.2.1) (((settleD d0 (min d1 ((d0.2.2.2.2.2.2.length : Nat) : Int)).toNat).2.2.2.2.2.1).2.2.2) ((settleD d0 (min d1 ((d0.2.2.2.2.2.2.length : Nat) : Int)).toNat).2.2.2.2.2.2) hg66 (by simp only [inK]; (exact fin2_dStart_ok)) (by simp only [inK]; (exact fin2_dStart_ok)) (OwnL.ow (Ow.ownl q27_5 rfl mnil) rfl) (OwnL.ow (Ow.ownl q27_6 rfl mnil) rfl) (OwnL.ow (Ow.ownl q27_7 rfl mnil) rfl) (OwnL.ow (Ow.ownl q27_8 rfl mnil) rfl) q27_9))) (fun mc66 ho66 => ?_)
            refine VO.k7 0 1 2 6 8 11 49 ?_
            refine VC.condF rfl ?_
            refine VC.skip ?_
            refine outN ?_
            refine VC.rs ?_
            refine VO.mv ?_
            refine VO.mv ?_
            refine VO.mv ?_
            refine VO.mv ?_
            refine VO.y rfl (.nilp rfl) ?_
            refine VO.y rfl (.fa rfl tst65 rfl) ?_
            obtain ⟨q67_E, q67_A5, q67_c5, q67_A6, q67_c6, q67_A7, q67_c7, q67_A8, q67_c8, q67_A9, q67_c9, q67_n5, q67_n6, q67_n7, q67_n8, q67_n9, _, q67_S, q67_3, q67_4, q67_5, q67_6, q67_7, q67_8, q67_9⟩ := openP_diskDisk (x0 := (settleD d0 (min d1 ((d0.2.2.2.2.2.2.length : Nat) : Int)).toNat).1) (x1 := (settleD d0 (min d1 ((d0.2.2.2.2.2.2.length : Nat) : Int)).toNat).2.1) (x2 := (settleD d0 (min d1 ((d0.2.2.2.2.2.2.length : Nat) : Int)).toNat).2.2.1) (x3 := (settleD d0 (min d1 ((d0.2.2.2.2.2.2.length : Nat) : Int)).toNat).2.2.2.1) (x4 := (settleD d0 (min d1 ((d0.2.2.2.2.2.2.length : Nat) : Int)).toNat).2.2.2.2.1) (x5 := ((settleD d0 (min d1 ((d0.2.2.2.2.2.2.length : Nat) : Int)).toNat).2.2.2.2.2.1).1) (x6 := ((settleD d0 (min d1 ((d0.2.2.2.2.2.2.length : Nat) : Int)).toNat).2.2.2.2.2.1).2.1) (x7 := ((settleD d0 (min d1 ((d0.2.2.2.2.2.2.length : Nat) : Int)).toNat).2.2.2.2.2.1).2.2.1) (x8 := ((settleD d0 (min d1 ((d0.2.2.2.2.2.2.length : Nat) : Int)).toNat).2.2.2.2.2.1).2.2.2) (x9 := (settleD d0 (min d1 ((d0.2.2.2.2.2.2.length : Nat) : Int)).toNat).2.2.2.2.2.2) ho66
            simp only [inK] at q67_3
            simp only [inK] at q67_4
            have q67_r5 := q67_5.rm
            have q67_r6 := q67_6.rm
            have q67_r7 := q67_7.rm
            have q67_r8 := q67_8.rm
            have q67_r9 := q67_9.rm
            refine VO.inv _ (fun _ h => h.parts (i := 166) rfl q67_S [173, 168, 169, 170, 171, 172]) ?_
            refine VO.store (k := 1) 173 rfl rfl (.inr ⟨tk63, rfl⟩) rfl rfl rfl rfl rfl ?_
            refine VO.y rfl (.nilp rfl) ?_
            refine VO.y rfl (.fa rfl tst65 rfl) ?_
            refine VO.store (k := 1) 173 rfl rfl (.inr ⟨tk4, rfl⟩) rfl rfl rfl rfl rfl ?_
            refine VO.y rfl (.nilp rfl) ?_
            refine VO.y rfl (.fa rfl tst65 rfl) ?_
            refine VO.store (k := 1) 173 rfl rfl (.inr ⟨tk4, rfl⟩) rfl rfl rfl rfl rfl ?_
            refine VO.y rfl (.nilp rfl) ?_
            refine VO.y rfl (.fa rfl tst65 rfl) ?_
            refine VO.store (k := 1) 173 rfl rfl (.inr ⟨tk3, rfl⟩) rfl rfl rfl rfl rfl ?_
            refine VO.clsP 174 [173, 168, 169, 170, 171] rfl (fun hg74 => (mkP_diskDisk ((settleD d0 (min d1 ((d0.2.2.2.2.2.2.length : Nat) : Int)).toNat).1) false false 0 ((settleD d0 (min d1 ((d0.2.2.2.2.2.2.length : Nat) : Int)).toNat).2.2.2.2.1) (((settleD d0 (min d1 ((d0.2.2.2.2.2.2.length : Nat) : Int)).toNat).2.2.2.2.2.1).1) (((settleD d0 (min d1 ((d0.2.2.2.2.2.2.length : Nat) : Int)).toNat).2.2.2.2.2.1).2.1) (((settleD d0 (min d1 ((d0.2.2.2.2.2.2.length : Nat) : Int)).toNat).2.2.2.2.2.1).2.2.1) (((settleD d0 (min d1 ((d0.2.2.2.2.2.2.length : Nat) : Int)).toNat).2.2.2.2.2.1).2.2.2) [] (Seps.nilAt 5 hg74) (by simp only [inK]; (exact fin2_dStart_ok)) (by simp only [inK]; (exact fin2_dStart_ok)) (OwnL.ow (Ow.ownl q67_5 rfl mnil) rfl) (OwnL.ow (Ow.ownl q67_6 rfl mnil) rfl) (OwnL.ow (Ow.ownl q67_7 rfl mnil) rfl) (OwnL.ow (Ow.ownl q67_8 rfl mnil) rfl) (Ow.nil _ _))) (fun mc74 ho74 => ?_)
            refine VO.kp [174, 0] [(174, mc74), (0, mout (wm W) (m0))] ?_
            refine VO.k7 0 1 2 6 8 11 49 ?_
            refine VC.rs ?_
            refine VO.as ?_
            refine VO.k7 0 1 2 6 8 11 49 ?_
            refine VC.ret ?_
            refine ⟨_, _, res_run (rs := [.tmp 6]) rfl (.tmp rfl .nil), fun W_ hI => out_of (l := [mc74]) hI [174] rfl rfl (mle_refl _) (fun hS_ => ?_)⟩
            dsimp only [packV]
            have hm0_ : ((dStart d0 d1 d2).1 : DdiskDisk) = ((settleD d0 (min d1 ((d0.2.2.2.2.2.2.length : Nat) : Int)).toNat).1, false, false, 0, (settleD d0 (min d1 ((d0.2.2.2.2.2.2.length : Nat) : Int)).toNat).2.2.2.2.1, ((settleD d0 (min d1 ((d0.2.2.2.2.2.2.length : Nat) : Int)).toNat).2.2.2.2.2.1), []) := by first | rfl | (exact fin0_dStart_ok)
            refine ⟨?_, ?_⟩
            rotate_left
            · rw [hm0_]; exact (Ow.up ho74 (hS_.1 _ (.head _)))
            all_goals (first | rfl | (exact fin0_dStart_ok))
end
section
set_option linter.unusedVariables false
set_option linter.unusedSimpArgs false
set_option maxRecDepth 4000
theorem fnOk12 : fnOk Try.prog 12 = true := by kernel_rfl
theorem fnOk25 : fnOk Try.prog 25 = true := by kernel_rfl
end
section
set_option linter.unusedVariables false
abbrev TwalWal : Ty := .pair (.ptr TdiskDisk) (.pair .bool (.pair (.sl TCommit) (.sl (.int .i64))))
abbrev DwalWal := (Nat × DdiskDisk) × Bool × (List DCommit) × (List Int)
theorem openO_walWal {m : Mem} {cs : List Value} {x0 : Nat × DdiskDisk} {x1 : Bool} {x2 : List DCommit} {x3 : List Int} (h : Ow TwalWal m cs (x0, x1, x2, x3)) : ∃ (A2 : Option Addr), ∃ (c2 : Nat), ∃ (A3 : Option Addr), ∃ (c3 : Nat), ∃ (n0 : Mem), ∃ (n2 : Mem), ∃ (n3 : Mem), cs = [(.pointer (some ⟨x0.1, 0, none⟩) : Value), .bool x1, .slice A2 x2.length c2, .slice A3 x3.length c3] ∧ Seps m [n0, n2, n3] ∧ Ow (.ptr TdiskDisk) n0 [.pointer (some ⟨x0.1, 0, none⟩)] x0 ∧ Ow (.sl TCommit) n2 [.slice A2 x2.length c2] x2 ∧ Ow (.sl (.int .i64)) n3 [.slice A3 x3.length c3] x3 := by
  obtain ⟨p1, q1, ma1, mb1, rfl, dj1, la1, lb1, u1, w1⟩ := Ow.pair h
  have z2 := u1
  obtain ⟨rfl, _⟩ := u1
  obtain ⟨p3, q3, ma3, mb3, rfl, dj3, la3, lb3, u3, w3⟩ := Ow.pair w1
  obtain rfl := (show _ = _ from u3)
  obtain ⟨p5, q5, ma5, mb5, rfl, dj5, la5, lb5, u5, w5⟩ := Ow.pair w3
  have z6 := u5
  obtain ⟨A6, c6, rfl, _⟩ := Ow.slice1 u5
  have z7 := w5
  obtain ⟨A7, c7, rfl, _⟩ := Ow.slice1 w5
  exact ⟨A6, c6, A7, c7, _, _, _, rfl, (Seps.app dj1 la1 lb1 (Seps.one (mle_refl _)) (Seps.app dj3 la3 lb3 (Seps.nil _) (Seps.app dj5 la5 lb5 (Seps.one (mle_refl _)) (Seps.one (mle_refl _))))), z2, z6, z7⟩
theorem mkO_walWal {m : Mem} {n0 n2 n3 : Mem} (x0 : Nat × DdiskDisk) (x1 : Bool) (x2 : List DCommit) (x3 : List Int) (hS : Seps m [n0, n2, n3]) {v0 : Value} (h0 : Ow (.ptr TdiskDisk) n0 [v0] x0) {v2 : Value} (h2 : Ow (.sl TCommit) n2 [v2] x2) {v3 : Value} (h3 : Ow (.sl (.int .i64)) n3 [v3] x3) : Ow TwalWal m [v0, .bool x1, v2, v3] (x0, x1, x2, x3) := by
  obtain ⟨e1, la1, lb1, Sa1, Sb1⟩ := Seps.cut (l := [n0]) (r := [n2, n3]) hS
  obtain ⟨e2, la2, lb2, Sa2, Sb2⟩ := Seps.cut (l := []) (r := [n2, n3]) Sb1
  obtain ⟨e3, la3, lb3, Sa3, Sb3⟩ := Seps.cut (l := [n2]) (r := [n3]) Sb2
  exact (Ow.mkPair (c1 := [_]) e1 la1 lb1 (h0.up (Sa1.1 _ (.head _))) (Ow.mkPair (c1 := [_]) e2 la2 lb2 (show Ow .bool _ [_] _ from rfl) (Ow.mkPair (c1 := [_]) e3 la3 lb3 (h2.up (Sa3.1 _ (.head _))) (h3.up (Sb3.1 _ (.head _))))))
theorem openP_walWal {m : Mem} {cs : List Value} {g : Nat} {x0 : Nat × DdiskDisk} {x1 : Bool} {x2 : List DCommit} {x3 : List Int} (h : Ow (.ptr TwalWal) m cs (g, (x0, x1, x2, x3))) : ∃ (E : TypeId), ∃ (A2 : Option Addr), ∃ (c2 : Nat), ∃ (A3 : Option Addr), ∃ (c3 : Nat), ∃ (n0 : Mem), ∃ (n2 : Mem), ∃ (n3 : Mem), cs = [.pointer (some ⟨g, 0, none⟩)] ∧ Seps m [mone g (.cells [(.pointer (some ⟨x0.1, 0, none⟩) : Value), .bool x1, .slice A2 x2.length c2, .slice A3 x3.length c3].toArray E (0, 0)), n0, n2, n3] ∧ Ow (.ptr TdiskDisk) n0 [.pointer (some ⟨x0.1, 0, none⟩)] x0 ∧ Ow (.sl TCommit) n2 [.slice A2 x2.length c2] x2 ∧ Ow (.sl (.int .i64)) n3 [.slice A3 x3.length c3] x3 := by
  obtain ⟨rfl, rc, E, m1, hd, l0, l1, h1⟩ := Ow.opnP h
  obtain ⟨A2, c2, A3, c3, n0, n2, n3, rfl, hS, f0, f2, f3⟩ := openO_walWal h1
  exact ⟨E, A2, c2, A3, c3, n0, n2, n3, rfl, Seps.app hd l0 l1 (Seps.one (mle_refl _)) hS, f0, f2, f3⟩
theorem mkP_walWal {m : Mem} {g : Nat} {E : TypeId} {n0 n2 n3 : Mem}{v0 : Value}{v2 : Value}{v3 : Value} (x0 : Nat × DdiskDisk) (x1 : Bool) (x2 : List DCommit) (x3 : List Int) (hS : Seps m [mone g (.cells [v0, .bool x1, v2, v3].toArray E (0, 0)), n0, n2, n3]) (h0 : Ow (.ptr TdiskDisk) n0 [v0] x0) (h2 : Ow (.sl TCommit) n2 [v2] x2) (h3 : Ow (.sl (.int .i64)) n3 [v3] x3) : Ow (.ptr TwalWal) m [.pointer (some ⟨g, 0, none⟩)] (g, (x0, x1, x2, x3)) :=
  Ow.clsP hS fun hS => mkO_walWal x0 x1 x2 x3 hS h0 h2 h3
abbrev Tlaw12Act : Ty := .pair (.int .i64) (.pair (.int .i64) (.pair (.int .i64) TCommit))
abbrev Dlaw12Act := Int × Int × Int × DCommit
instance declaw12Act : DecidableEq Dlaw12Act := (@instDecidableEqProd _ _ inferInstance (@instDecidableEqProd _ _ inferInstance (@instDecidableEqProd _ _ inferInstance (@instDecidableEqProd _ _ inferInstance (@instDecidableEqProd _ _ inferInstance inferInstance)))))
theorem open_law12Act {m : Mem} {cs : List Value} {x0 : Int} {x1 : Int} {x2 : Int} {x3 : Int} {x4 : Int} {x5 : List DOp} (h : Rd Tlaw12Act m cs (x0, x1, x2, x3, x4, x5)) : ∃ (A5 : Option Addr), ∃ (c5 : Nat), cs = [(.int .i64 x0 : Value), .int .i64 x1, .int .i64 x2, .int .i64 x3, .int .i64 x4, .slice A5 x5.length c5] ∧ inK .i64 x0 ∧ inK .i64 x1 ∧ inK .i64 x2 ∧ inK .i64 x3 ∧ inK .i64 x4 ∧ Rd (.sl TOp) m [.slice A5 x5.length c5] x5 := by
  obtain ⟨p1, q1, rfl, u1, w1⟩ := Rd.pair h
  obtain ⟨rfl, z2⟩ := (show _ = _ ∧ _ from u1)
  obtain ⟨p3, q3, rfl, u3, w3⟩ := Rd.pair w1
  obtain ⟨rfl, z4⟩ := (show _ = _ ∧ _ from u3)
  obtain ⟨p5, q5, rfl, u5, w5⟩ := Rd.pair w3
  obtain ⟨rfl, z6⟩ := (show _ = _ ∧ _ from u5)
  obtain ⟨p7, q7, rfl, u7, w7⟩ := Rd.pair w5
  obtain ⟨rfl, z8⟩ := (show _ = _ ∧ _ from u7)
  obtain ⟨p9, q9, rfl, u9, w9⟩ := Rd.pair w7
  obtain ⟨rfl, z10⟩ := (show _ = _ ∧ _ from u9)
  have z11 := w9
  obtain ⟨A11, c11, rfl, _⟩ := Rd.slice1 w9
  exact ⟨A11, c11, rfl, z2, z4, z6, z8, z10, z11⟩
end
section
set_option linter.unusedVariables false
def onD (d : DDisk) : Prop := d.1 = true ∧ d.2.1 = false
instance (d : DDisk) : Decidable (onD d) := by unfold onD; infer_instance
/-- why nothing is done -/
def wWrong (d : DDisk) (br : Bool) : Int := if br = true ∨ ¬ onD d then 6 else 0
def tornD (d : DDisk) (f n : Int) : DDisk × Int := if ((heldB d.2.2.2.2.2.1 d.2.2.2.2.2.2 f).length : Int) = n then (d, 0) else if ¬ (dCut d f n).2 = 0 then dCut d f n else dSync (dCut d f n).1
/-- the log of a disk -/
def wLog (d : DDisk) : List DCommit × Int := logF (dRead d 0).1
def wOpen (d : DDisk) : DDisk × Int := if ¬ wrongD d = 0 then (d, wrongD d) else tornD d 0 (wLog d).2
abbrev WSt := DDisk × Bool × List DCommit
def wTried (q : DDisk × Int) (l l' : List DCommit) : WSt × Int := if ¬ q.2 = 0 then ((q.1, true, l), q.2) else ((q.1, false, l'), 0)
def wApp (d : DDisk) (br : Bool) (l : List DCommit) (c : DCommit) : WSt × Int :=
  if ¬ wWrong d br = 0 then ((d, true, l), 6) else if ¬ cCheck c = 0 then ((d, false, l), cCheck c)
  else if ¬ (cFollows (lastOr 0 l) l.length [c]).1 = 0 then ((d, false, l), 15) else wTried (dWrite d 0 (cFrame c)) l (l ++ [c])
def wSync (d : DDisk) (br : Bool) (l : List DCommit) : WSt × Int := if ¬ wWrong d br = 0 then ((d, true, l), 6) else wTried (dSync d) l l
def wCut (d : DDisk) (br : Bool) (l : List DCommit) (to : Int) : WSt × Int :=
  if ¬ wWrong d br = 0 then ((d, true, l), 6) else if to < 0 ∨ (l.length : Int) < to then ((d, false, l), 2)
  else wTried (dCut d 0 (cFrames (l.take to.toNat)).length) l (l.take to.toNat)
def wFrom (l : List DCommit) (n most : Int) : List DCommit := if n < 1 then [] else (l.drop (n - 1).toNat).take most.toNat
section
variable {d : DDisk} {br : Bool} {l l' : List DCommit} {c : DCommit} {q : DDisk × Int} {to n most : Int}
theorem wrong_ok (h : ¬ br = true) (h2 : onD d) : wWrong d br = 0 := if_neg fun q => q.elim h (· h2)
theorem wrong_six (h : ¬ wWrong d br = 0) : wWrong d br = 6 := by
  by_cases h1 : br = true ∨ ¬ onD d
  · exact if_pos h1
  · exact absurd (if_neg h1) h
theorem read_err' {f : Int} (d : DDisk) (hf : inF f) : (dRead d f).2 = wrongD d := by
  by_cases h : wrongD d = 0
  · rw [read_held h hf, h]
  · unfold dRead; rw [if_pos h]
theorem tried_bad (h : ¬ q.2 = 0) : wTried q l l' = ((q.1, true, l), q.2) := if_pos h
theorem tried_good (h : ¬ ¬ q.2 = 0) : wTried q l l' = ((q.1, false, l'), 0) := if_neg h
theorem app_bad1 (h : ¬ wWrong d br = 0) : wApp d br l c = ((d, true, l), 6) := if_pos h
theorem app_bad2 (h : ¬ ¬ wWrong d br = 0) (h2 : ¬ cCheck c = 0) : wApp d br l c = ((d, false, l), cCheck c) := by unfold wApp; rw [if_neg h, if_pos h2]
theorem app_bad3 (h : ¬ ¬ wWrong d br = 0) (h2 : ¬ ¬ cCheck c = 0) (h3 : ¬ (cFollows (lastOr 0 l) l.length [c]).1 = 0) : wApp d br l c = ((d, false, l), 15) := by unfold wApp; rw [if_neg h, if_neg h2, if_pos h3]
theorem app_go (h : ¬ ¬ wWrong d br = 0) (h2 : ¬ ¬ cCheck c = 0) (h3 : ¬ ¬ (cFollows (lastOr 0 l) l.length [c]).1 = 0) : wApp d br l c = wTried (dWrite d 0 (cFrame c)) l (l ++ [c]) := by unfold wApp; rw [if_neg h, if_neg h2, if_neg h3]
theorem cenc_err {c : DCommit} : (cEncode c).2 = cCheck c := by unfold cEncode; split <;> (rename_i h; first | exact h.symm | rfl)
theorem app_e2 (h : ¬ ¬ wWrong d br = 0) (h2 : ¬ (cEncode c).2 = 0) : wApp d br l c = ((d, false, l), (cEncode c).2) := by
  rw [cenc_err] at h2 ⊢; exact app_bad2 h h2
theorem app_e3 (h : ¬ ¬ wWrong d br = 0) (h2 : ¬ ¬ (cEncode c).2 = 0) (h3 : ¬ (cFollows (lastOr 0 l) l.length [c]).1 = 0) : wApp d br l c = ((d, false, l), 15) := by
  rw [cenc_err] at h2; exact app_bad3 h h2 h3
theorem app_fr (h2 : ¬ ¬ (cEncode c).2 = 0) : fAppend [] (cEncode c).1 = (cFrame c, 0) := by
  rw [cenc_err] at h2
  have h0 := Decidable.not_not.1 h2
  have h1 := cEncode_len c
  rw [fAppend_good (by omega), show cEncode c = (cEnc c, 0) from if_pos h0]; rfl
theorem app_frl (h2 : ¬ ¬ (cEncode c).2 = 0) : (fAppend [] (cEncode c).1).1.length ≤ 710 := by
  rw [app_fr h2]; rw [cenc_err] at h2; exact (cFrame_len (Decidable.not_not.1 h2)).1
theorem app_ops (h2 : ¬ ¬ (cEncode c).2 = 0) : c.2.2.length ≤ 8 := by
  rw [cenc_err] at h2; exact batchCheck_ok (cCheck_ok (Decidable.not_not.1 h2)).2.2.2.2
theorem app_ego (h : ¬ ¬ wWrong d br = 0) (h2 : ¬ ¬ (cEncode c).2 = 0) (h3 : ¬ ¬ (cFollows (lastOr 0 l) l.length [c]).1 = 0) : wApp d br l c = wTried (dWrite d 0 (fAppend [] (cEncode c).1).1) l (l ++ [c]) := by
  rw [app_fr h2]; rw [cenc_err] at h2; exact app_go h h2 h3
theorem app_ends {es : List Int} (he : es = endsC l) (h2 : ¬ ¬ (cEncode c).2 = 0) : endsC (l ++ [c]) = es ++ [lenW es + ((fAppend [] (cEncode c).1).1.length : Int)] := by
  rw [endsC_snoc, he, app_fr h2, lenW_ends]
theorem wrong_rng (d : DDisk) : 0 ≤ wrongD d ∧ wrongD d ≤ 6 := by unfold wrongD; split; exact ⟨by omega, by omega⟩; split <;> exact ⟨by omega, by omega⟩
theorem write_rng (d : DDisk) (f : Int) (b : Bytes) : 0 ≤ (dWrite d f b).2 ∧ (dWrite d f b).2 ≤ 6 := by
  have h0 := wrong_rng d
  unfold dWrite; split
  · exact h0
  · split
    · exact ⟨by dsimp only; omega, by dsimp only; omega⟩
    · rcases go_err b.length (d := d) (f := f) (b := b) with h | h <;> rw [h] <;> exact ⟨by omega, by omega⟩
theorem sync_rng (d : DDisk) : 0 ≤ (dSync d).2 ∧ (dSync d).2 ≤ 6 := by
  have h0 := wrong_rng d
  unfold dSync; split
  · exact h0
  · split <;> exact ⟨by dsimp only; omega, by dsimp only; omega⟩
theorem wsync_bad (h : ¬ wWrong d br = 0) : wSync d br l = ((d, true, l), 6) := if_pos h
theorem wsync_go (h : ¬ ¬ wWrong d br = 0) : wSync d br l = wTried (dSync d) l l := if_neg h
theorem wsync_eq (h : ¬ ¬ wWrong d br = 0) : wSync d br l = (((dSync d).1, decide (¬ (dSync d).2 = 0), l), (dSync d).2) := by
  rw [wsync_go h]
  by_cases h2 : (dSync d).2 = 0
  · rw [tried_good (not_not_intro h2)]; simp [h2]
  · rw [tried_bad h2]; simp [h2]
theorem open_bad (h : ¬ (dRead d 0).2 = 0) : wOpen d = (d, (dRead d 0).2) := by rw [read_err' d (by decide)] at h ⊢; exact if_pos h
theorem open_read (h : ¬ ¬ (dRead d 0).2 = 0) : wrongD d = 0 ∧ dRead d 0 = (heldB d.2.2.2.2.2.1 d.2.2.2.2.2.2 0, 0) := by
  rw [read_err' d (by decide)] at h
  have h0 := Decidable.not_not.1 h
  exact ⟨h0, read_held h0 (by decide)⟩
theorem open_go (h : ¬ ¬ (dRead d 0).2 = 0) : wOpen d = tornD d 0 (wLog d).2 := by unfold wOpen; rw [if_neg (Decidable.not_not.2 (open_read h).1)]
theorem open_is (h : ¬ ¬ (dRead d 0).2 = 0) : heldB d.2.2.2.2.2.1 d.2.2.2.2.2.2 0 = (dRead d 0).1 := by rw [(open_read h).2]
theorem wl_len (d : DDisk) : lenW (endsC (logF (dRead d 0).1).1) = (wLog d).2 := (log_bounds _).2.2.2.2.1.symm
theorem open_whole (h : ¬ ¬ (dRead d 0).2 = 0) (h2 : ¬ lenW (endsC (logF (dRead d 0).1).1) < ((dRead d 0).1.length : Int)) : wOpen d = (d, 0) := by
  have h3 := (log_bounds (dRead d 0).1).2.1
  rw [wl_len] at h2
  rw [open_go h]; unfold tornD; rw [open_is h, if_pos]
  unfold wLog at h2 ⊢; omega
theorem open_cutbad (h : ¬ ¬ (dRead d 0).2 = 0) (h2 : lenW (endsC (logF (dRead d 0).1).1) < ((dRead d 0).1.length : Int)) (h3 : ¬ (dCut d 0 (lenW (endsC (logF (dRead d 0).1).1))).2 = 0) : wOpen d = dCut d 0 (lenW (endsC (logF (dRead d 0).1).1)) := by
  rw [wl_len] at h2 h3 ⊢
  rw [open_go h]; unfold tornD; rw [open_is h, if_neg (by omega), if_pos h3]
theorem open_sync (h : ¬ ¬ (dRead d 0).2 = 0) (h2 : lenW (endsC (logF (dRead d 0).1).1) < ((dRead d 0).1.length : Int)) (h3 : ¬ ¬ (dCut d 0 (lenW (endsC (logF (dRead d 0).1).1))).2 = 0) : wOpen d = dSync (dCut d 0 (lenW (endsC (logF (dRead d 0).1).1))).1 := by
  rw [wl_len] at h2 h3 ⊢
  rw [open_go h]; unfold tornD; rw [open_is h, if_neg (by omega), if_neg h3]
def okL (l : List DCommit) : Prop := (cFollows 0 0 l).1 = 0
theorem okL_nil : okL [] := rfl
theorem okL_log (d : DDisk) : okL (wLog d).1 := (log_spec _).1
theorem okL_len (h : okL l) : (l.length : Int) ≤ 1048576 := by have := follows_len h (by omega); omega
theorem okL_snoc (h : okL l) (h2 : ¬ ¬ (cFollows (lastOr 0 l) l.length [c]).1 = 0) : okL (l ++ [c]) := follows_snoc h (Decidable.not_not.1 h2)
theorem okL_all (h : okL l) : ∀ c ∈ l, cCheck c = 0 := cFollowsAt_ok h
theorem okL_ops {k m : Nat} {x : DCommit} (h : okL l) (hx : (l.drop m)[k]? = some x) : x.2.2.length ≤ 8 := by
  rw [List.getElem?_drop] at hx
  exact batchCheck_ok (cCheck_ok (okL_all h x (List.mem_of_getElem? hx))).2.2.2.2
theorem frames_le (h : ∀ c ∈ l, cCheck c = 0) : (cFrames l).length ≤ 710 * l.length := by
  induction l with
  | nil => exact Nat.le_refl _
  | cons c l ih =>
    have h1 := (cFrame_len (h c (.head _))).1
    have h2 := ih fun x hx => h x (.tail _ hx)
    rw [cFrames_cons, List.length_append, List.length_cons]; omega
theorem okL_frames (h : okL l) : (cFrames l).length ≤ 744488960 := by
  have h1 := frames_le (okL_all h); have h2 := okL_len h; omega
theorem tornD_ok {f : Int} (h : okD d) : okD (tornD d f n).1 := by
  unfold tornD; split
  · exact h
  · split
    · exact cut_ok h
    · exact sync_ok (cut_ok h)
theorem tornD_w {f : Int} (h : okD d) : wD (tornD d f n).1 ≤ wD d + 3 := by
  have h1 := cut_w (f := f) (n := n) h
  have h2 := sync_w (cut_ok (f := f) (n := n) h)
  unfold tornD; split
  · dsimp only; omega
  · split
    · omega
    · omega
theorem open_ok (h : okD d) : okD (wOpen d).1 := by unfold wOpen; split; exact h; exact tornD_ok h
theorem open_w (h : okD d) : wD (wOpen d).1 ≤ wD d + 3 := by unfold wOpen; split; (dsimp only; omega); exact tornD_w h
theorem tried_ok (h : okD q.1) : okD (wTried q l l').1.1 := by unfold wTried; split <;> exact h
theorem tried_1 : (wTried q l l').1.1 = q.1 := by unfold wTried; split <;> rfl
theorem app_ok (h : okD d) : okD (wApp d br l c).1.1 := by
  unfold wApp; split
  · exact h
  · split
    · exact h
    · split
      · exact h
      · exact tried_ok (write_ok h)
theorem app_w (h : okD d) : wD (wApp d br l c).1.1 ≤ wD d + 2131 := by
  unfold wApp; split
  · dsimp only; omega
  · split
    · dsimp only; omega
    · rename_i h0; split
      · dsimp only; omega
      · rw [tried_1]
        have h1 := write_w (f := 0) (b := cFrame c) h
        have h2 := (cFrame_len (Decidable.not_not.1 h0)).1
        omega
theorem app_l (h : okL l) : okL (wApp d br l c).1.2.2 := by
  unfold wApp; split
  · exact h
  · split
    · exact h
    · split
      · exact h
      · rename_i h0; unfold wTried; split
        · exact h
        · exact okL_snoc h h0
theorem wsync_ok (h : okD d) : okD (wSync d br l).1.1 := by unfold wSync; split; exact h; exact tried_ok (sync_ok h)
theorem wsync_w (h : okD d) : wD (wSync d br l).1.1 ≤ wD d + 1 := by unfold wSync; split; (dsimp only; omega); rw [tried_1]; exact sync_w h
theorem wsync_l : (wSync d br l).1.2.2 = l := by unfold wSync; split; rfl; unfold wTried; split <;> rfl
theorem from_all (h : ¬ n < 1) : wFrom l n most = (l.drop (n - 1).toNat).take most.toNat := if_neg h
theorem lastOr_at {k : Nat} {x : DCommit} {e : Int} (hx : l[k]? = some x) (h0 : (k : Int) + 1 = l.length) : lastOr e l = x.1 := by
  unfold lastOr; rw [List.getLast?_eq_getElem?, show l.length - 1 = k by omega, hx]
theorem lastOr_nil {e : Int} (h0 : (l.length : Int) = 0) : lastOr e l = e := by
  have h1 : l = [] := List.eq_nil_of_length_eq_zero (by omega)
  rw [h1]; rfl
theorem from_mid {k : Nat} (h : ¬ n < 1) (ho : l' = (l.drop (n - 1).toNat).take k) (hk : (l'.length : Int) = most) : wFrom l n most = l' := by
  have h1 : l'.length ≤ k := by rw [ho, List.length_take]; omega
  rw [from_all h, ho, ← hk, Int.toNat_natCast, ho, List.length_take]
  by_cases h2 : k ≤ (l.drop (n - 1).toNat).length
  · rw [Nat.min_eq_left h2]
  · rw [Nat.min_eq_right (by omega), List.take_of_length_le (Nat.le_refl _), List.take_of_length_le (by omega)]
theorem from_end {k : Nat} (h : ¬ n < 1) (ho : l' = (l.drop (n - 1).toNat).take k) (hk : (l.drop (n - 1).toNat).length ≤ k) (hm : (k : Int) ≤ most) : wFrom l n most = l' := by
  rw [from_all h, ho, List.take_of_length_le (by omega), List.take_of_length_le hk]
theorem from_none (h : n < 1 ∨ (l.length : Int) < n ∨ most < 1) : wFrom l n most = [] := by
  unfold wFrom
  split
  · rfl
  · rcases h with h | h | h
    · contradiction
    · rw [List.drop_eq_nil_of_le (by omega)]; exact List.take_nil
    · rw [show most.toNat = 0 by omega]; rfl
end
end
end Go.Proofs.Ytdoamgdanlnlfaa
