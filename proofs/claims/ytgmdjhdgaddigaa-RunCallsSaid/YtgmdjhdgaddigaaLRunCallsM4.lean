/- Part 4 of the proof of LRunCalls: what it needs of the library, the walks and the plain laws. Conditions: those named in each theorem. -/
import Derived.Test.YtgmdjhdgaddigaaLRunCallsM3
set_option linter.unusedVariables false
set_option linter.unusedSimpArgs false
set_option maxRecDepth 4000
namespace Go.Proofs.Ytgmdjhdgaddigaa
theorem fnOk69 : fnOk Try.prog 69 = true := by kernel_rfl
theorem tst107 : tst Try.prog 107 = some [(0, 1), (1, 1), (2, 1), (3, 1)] := by kernel_rfl
theorem tst62 : tst Try.prog 62 = some [(0, 1), (1, 1), (2, 1), (3, 1), (4, 1), (5, 4), (9, 1)] := by kernel_rfl
theorem tz62 : tz Try.prog 62 = some [.bool false, .bool false, .bool false, .int .i64 0, .int .i64 0, .slice none 0 0, .slice none 0 0, .slice none 0 0, .slice none 0 0, .slice none 0 0] := by kernel_rfl
theorem dNew_ok (W : World) : CallR Try.prog 10 [] W (mnil) (fun v m' => ∃ (s0 : Nat), v = .pointer (some ⟨s0, 0, none⟩) ∧ Ow (.ptr TdiskDisk) m' [.pointer (some ⟨s0, 0, none⟩)] (s0, newD)) := by
  refine CallR.ofA (n := 3) Try.func10 rfl rfl rfl ?_
  refine VC.rs ?_
  refine VO.as ?_
  refine VO.k1 0 ?_
  refine VC.rs ?_
  refine VO.y rfl (.bst (cs := [Value.bool true, Value.bool false, Value.bool false, Value.int .i64 (0), Value.int .i64 (0), Value.slice none (0) (0), Value.slice none (0) (0), Value.slice none (0) (0), Value.slice none (0) (0), Value.slice none (0) (0)]) rfl tst62 tz62 rfl) ?_
  refine VO.box (cs := [Value.bool true, Value.bool false, Value.bool false, Value.int .i64 (0), Value.int .i64 (0), Value.slice none (0) (0), Value.slice none (0) (0), Value.slice none (0) (0), Value.slice none (0) (0), Value.slice none (0) (0)]) 102 rfl rfl rfl (fun g1 => ?_)
  refine VO.as ?_
  refine VO.k1 0 ?_
  refine VC.ret ?_
  refine ⟨_, _, res_run (rs := [.tmp 0]) rfl (.tmp rfl .nil), fun W_ hI => out_of (l := [mone g1 (.cells [Value.bool true, Value.bool false, Value.bool false, Value.int .i64 (0), Value.int .i64 (0), Value.slice none (0) (0), Value.slice none (0) (0), Value.slice none (0) (0), Value.slice none (0) (0), Value.slice none (0) (0)].toArray 62 (0, 0))]) hI [102] rfl rfl (mle_refl _) (fun hS_ => ?_)⟩
  dsimp only [packV]
  have he0 : (newD : DdiskDisk) = (true, false, false, 0, 0, ([], [], [], []), []) := by first | rfl | (simp [*]; done)
  refine ⟨g1, ?_, ?_⟩
  rotate_left
  · rw [he0]; exact (mkP_diskDisk true false false 0 0 [] [] [] [] [] (Seps.nilAt 5 (Seps.nilAt 4 (Seps.nilAt 3 (Seps.nilAt 2 (Seps.nilAt 1 hS_))))) bdk bdk (Ow.nil _ _) (Ow.nil _ _) (Ow.nil _ _) (Ow.nil _ _) (Ow.nil _ _))
  all_goals (first | rfl | (simp [*]; done))
theorem dIs_ok (W : World) (d0 : Int) (h0 : inK .i64 d0) : CallR Try.prog 73 [.int .i64 d0] W (mnil) (fun v m' => v = .bool (decide (inF d0))) := by
  have h0' := h0; simp only [inK] at h0'
  refine CallR.ofA (n := 9) Try.func73 rfl rfl rfl ?_
  refine VC.rs ?_
  refine VO.as ?_
  refine VO.k2 0 2 ?_
  refine VC.rs ?_
  refine VO.mv ?_
  refine VO.y rfl (.geq rfl rfl) ?_
  refine VO.mv ?_
  refine VO.dec (t := 5) rfl (fun hc1 => ?_) (fun hc1 => ?_)
  · -- T
    refine VO.gy rfl ⟨_, rfl, rfl⟩ (.mv rfl) ?_
    refine VO.gy rfl ⟨_, rfl, rfl⟩ (.lss rfl rfl) ?_
    refine VO.y rfl (.pT rfl rfl) ?_
    refine VO.as ?_
    refine VO.k2 0 2 ?_
    refine VC.ret ?_
    refine ⟨_, _, res_run (rs := [.tmp 2]) rfl (.tmp rfl .nil), fun W_ hI => out_of (l := []) hI [] rfl rfl (mle_refl _) (fun hS_ => ?_)⟩
    dsimp only [packV]
    all_goals (first | rfl | (simp [inF, *]))
  · -- F
    refine VO.gN ?_
    refine VO.gN ?_
    refine VO.y rfl (.pF rfl rfl) ?_
    refine VO.as ?_
    refine VO.k2 0 2 ?_
    refine VC.ret ?_
    refine ⟨_, _, res_run (rs := [.tmp 2]) rfl (.tmp rfl .nil), fun W_ hI => out_of (l := []) hI [] rfl rfl (mle_refl _) (fun hS_ => ?_)⟩
    dsimp only [packV]
    all_goals (first | rfl | (simp [inF, *]))
theorem dNone_ok (W : World) {m0 : Mem} (hm : mle (m0) (wm W)) {g0 : Nat} {d0 : DdiskDisk} (h0 : Ow (.ptr TdiskDisk) m0 [.pointer (some ⟨g0, 0, none⟩)] (g0, d0)) : CallR Try.prog 69 [.pointer (some ⟨g0, 0, none⟩)] W (m0) (fun v m' => v = .bool (decide (d0.1 = false)) ∧ Ow (.ptr TdiskDisk) m' [.pointer (some ⟨g0, 0, none⟩)] (g0, d0)) := by
  refine CallR.ofB (n := 12) hm Try.func69 rfl rfl rfl ?_
  refine VC.rs ?_
  refine VO.as ?_
  refine VO.k2 0 2 ?_
  refine VC.rs ?_
  refine VO.mv ?_
  refine VO.y rfl (.pnil rfl rfl Try.underlying27 rfl) ?_
  refine VO.mv ?_
  refine VO.gy rfl ⟨_, rfl, rfl⟩ (.mv rfl) ?_
  refine VO.gy rfl ⟨_, rfl, rfl⟩ (.nilp rfl) ?_
  refine VO.gy rfl ⟨_, rfl, rfl⟩ (.fa rfl tst62 rfl) ?_
  obtain ⟨q1_E, q1_A5, q1_c5, q1_A6, q1_c6, q1_A7, q1_c7, q1_A8, q1_c8, q1_A9, q1_c9, q1_n5, q1_n6, q1_n7, q1_n8, q1_n9, _, q1_S, q1_3, q1_4, q1_5, q1_6, q1_7, q1_8, q1_9⟩ := openP_diskDisk (x0 := d0.1) (x1 := d0.2.1) (x2 := d0.2.2.1) (x3 := d0.2.2.2.1) (x4 := d0.2.2.2.2.1) (x5 := d0.2.2.2.2.2.1.1) (x6 := d0.2.2.2.2.2.1.2.1) (x7 := d0.2.2.2.2.2.1.2.2.1) (x8 := d0.2.2.2.2.2.1.2.2.2) (x9 := d0.2.2.2.2.2.2) h0
  simp only [inK] at q1_3
  simp only [inK] at q1_4
  have q1_r5 := q1_5.rm
  have q1_r6 := q1_6.rm
  have q1_r7 := q1_7.rm
  have q1_r8 := q1_8.rm
  have q1_r9 := q1_9.rm
  refine VO.inv _ (fun _ h => h.parts (i := 1) rfl q1_S [107, 102, 103, 104, 105, 106]) ?_
  refine VO.gy rfl ⟨_, rfl, rfl⟩ (.ld1 107 rfl tk4 rfl (cellsAt_one rfl rfl)) ?_
  refine VO.gy rfl ⟨_, rfl, rfl⟩ (.not rfl) ?_
  refine VO.y rfl (.pF rfl rfl) ?_
  refine VO.as ?_
  refine VO.clsP 108 [107, 102, 103, 104, 105, 106] rfl (fun hg8 => (show Ow (.ptr TdiskDisk) _ _ (_, d0) from (mkP_diskDisk d0.1 d0.2.1 d0.2.2.1 d0.2.2.2.1 d0.2.2.2.2.1 d0.2.2.2.2.2.1.1 d0.2.2.2.2.2.1.2.1 d0.2.2.2.2.2.1.2.2.1 d0.2.2.2.2.2.1.2.2.2 d0.2.2.2.2.2.2 hg8 bdk bdk (OwnL.ow (Ow.ownl q1_5 rfl mnil) rfl) (OwnL.ow (Ow.ownl q1_6 rfl mnil) rfl) (OwnL.ow (Ow.ownl q1_7 rfl mnil) rfl) (OwnL.ow (Ow.ownl q1_8 rfl mnil) rfl) q1_9))) (fun mc8 ho8 => ?_)
  refine VO.k2 0 2 ?_
  refine VC.ret ?_
  refine ⟨_, _, res_run (rs := [.tmp 2]) rfl (.tmp rfl .nil), fun W_ hI => out_of (l := [mc8]) hI [108] rfl rfl (mle_refl _) (fun hS_ => ?_)⟩
  dsimp only [packV]
  have hm0_ : (d0 : DdiskDisk) = d0 := by first | rfl | (simp [*]; done)
  refine ⟨?_, ?_⟩
  rotate_left
  · rw [hm0_]; exact (Ow.up ho8 (hS_.1 _ (.head _)))
  all_goals (first | rfl | (cases d0.1 <;> rfl))
theorem dWrong_ok (W : World) {m0 : Mem} (hm : mle (m0) (wm W)) {g0 : Nat} {d0 : DdiskDisk} (h0 : Ow (.ptr TdiskDisk) m0 [.pointer (some ⟨g0, 0, none⟩)] (g0, d0)) : CallR Try.prog 65 [.pointer (some ⟨g0, 0, none⟩)] W (m0) (fun v m' => v = .int .i64 (wrongD d0) ∧ Ow (.ptr TdiskDisk) m' [.pointer (some ⟨g0, 0, none⟩)] (g0, d0)) := by
  refine CallR.ofB (n := 11) hm Try.func65 rfl rfl rfl ?_
  refine VC.rs ?_
  refine VO.as ?_
  refine VO.k2 0 2 ?_
  refine VC.seq ?_
  refine VC.block ?_
  refine VC.rs ?_
  refine VO.mv ?_
  refine VO.call 1 rfl fnOk69 rfl rfl (fun W hW => dNone_ok W (hW.at (i := 1) rfl) h0) (fun v1 m1 hv1 => ?_)
  obtain ⟨rfl, w1_0⟩ := hv1
  refine VO.as ?_
  refine VO.k3 0 2 3 ?_
  refine VC.cond rfl (fun hc2 => ?_) (fun hc2 => ?_)
  · -- T
    refine VC.rs ?_
    refine VO.as ?_
    refine VO.kp [1, 0] [(1, m1), (0, mout (wm W) (m0))] ?_
    refine VO.k3 0 2 3 ?_
    refine VC.ret ?_
    refine outBR ?_
    refine outR ?_
    refine ⟨_, _, res_run (rs := [.tmp 2]) rfl (.tmp rfl .nil), fun W_ hI => out_of (l := [m1]) hI [1] rfl rfl (mle_refl _) (fun hS_ => ?_)⟩
    dsimp only [packV]
    have hm0_ : (d0 : DdiskDisk) = d0 := by first | rfl | (simp [*]; done)
    refine ⟨?_, ?_⟩
    rotate_left
    · rw [hm0_]; exact (Ow.up w1_0 (hS_.1 _ (.head _)))
    all_goals (first | rfl | (simp [wrongD, *]))
  · -- F
    refine VC.rs ?_
    refine VO.mv ?_
    refine VO.y rfl (.nilp rfl) ?_
    refine VO.y rfl (.fa rfl tst62 rfl) ?_
    obtain ⟨q3_E, q3_A5, q3_c5, q3_A6, q3_c6, q3_A7, q3_c7, q3_A8, q3_c8, q3_A9, q3_c9, q3_n5, q3_n6, q3_n7, q3_n8, q3_n9, _, q3_S, q3_3, q3_4, q3_5, q3_6, q3_7, q3_8, q3_9⟩ := openP_diskDisk (x0 := d0.1) (x1 := d0.2.1) (x2 := d0.2.2.1) (x3 := d0.2.2.2.1) (x4 := d0.2.2.2.2.1) (x5 := d0.2.2.2.2.2.1.1) (x6 := d0.2.2.2.2.2.1.2.1) (x7 := d0.2.2.2.2.2.1.2.2.1) (x8 := d0.2.2.2.2.2.1.2.2.2) (x9 := d0.2.2.2.2.2.2) w1_0
    simp only [inK] at q3_3
    simp only [inK] at q3_4
    have q3_r5 := q3_5.rm
    have q3_r6 := q3_6.rm
    have q3_r7 := q3_7.rm
    have q3_r8 := q3_8.rm
    have q3_r9 := q3_9.rm
    refine VO.inv _ (fun _ h => h.parts (i := 1) rfl q3_S [109, 104, 105, 106, 107, 108]) ?_
    refine VO.y rfl (.ld1 109 rfl tk4 rfl (cellsAt_one rfl rfl)) ?_
    refine VO.as ?_
    refine VO.clsP 110 [109, 104, 105, 106, 107, 108] rfl (fun hg10 => (show Ow (.ptr TdiskDisk) _ _ (_, d0) from (mkP_diskDisk d0.1 d0.2.1 d0.2.2.1 d0.2.2.2.1 d0.2.2.2.2.1 d0.2.2.2.2.2.1.1 d0.2.2.2.2.2.1.2.1 d0.2.2.2.2.2.1.2.2.1 d0.2.2.2.2.2.1.2.2.2 d0.2.2.2.2.2.2 hg10 bdk bdk (OwnL.ow (Ow.ownl q3_5 rfl mnil) rfl) (OwnL.ow (Ow.ownl q3_6 rfl mnil) rfl) (OwnL.ow (Ow.ownl q3_7 rfl mnil) rfl) (OwnL.ow (Ow.ownl q3_8 rfl mnil) rfl) q3_9))) (fun mc10 ho10 => ?_)
    refine VO.kp [110, 0] [(110, mc10), (0, mout (wm W) (m0))] ?_
    refine VO.k4 0 2 3 6 ?_
    refine VC.condB rfl (fun hc11 => ?_) (fun hc11 => ?_)
    · -- FT
      refine VC.rs ?_
      refine VO.as ?_
      refine VO.k4 0 2 3 6 ?_
      refine VC.ret ?_
      refine outBR ?_
      refine outR ?_
      refine ⟨_, _, res_run (rs := [.tmp 2]) rfl (.tmp rfl .nil), fun W_ hI => out_of (l := [mc10]) hI [110] rfl rfl (mle_refl _) (fun hS_ => ?_)⟩
      dsimp only [packV]
      have hm0_ : (d0 : DdiskDisk) = d0 := by first | rfl | (simp [*]; done)
      refine ⟨?_, ?_⟩
      rotate_left
      · rw [hm0_]; exact (Ow.up ho10 (hS_.1 _ (.head _)))
      all_goals (first | rfl | (simp [wrongD, *]))
    · -- FF
      refine VC.skip ?_
      refine outBN ?_
      refine outN ?_
      refine VC.rs ?_
      refine VO.as ?_
      refine VO.k4 0 2 3 6 ?_
      refine VC.ret ?_
      refine ⟨_, _, res_run (rs := [.tmp 2]) rfl (.tmp rfl .nil), fun W_ hI => out_of (l := [mc10]) hI [110] rfl rfl (mle_refl _) (fun hS_ => ?_)⟩
      dsimp only [packV]
      have hm0_ : (d0 : DdiskDisk) = d0 := by first | rfl | (simp [*]; done)
      refine ⟨?_, ?_⟩
      rotate_left
      · rw [hm0_]; exact (Ow.up ho10 (hS_.1 _ (.head _)))
      all_goals (first | rfl | (simp [wrongD, *]))
theorem dBurn_ok (W : World) {m0 : Mem} (hm : mle (m0) (wm W)) {g0 : Nat} {d0 : DdiskDisk} (h0 : Ow (.ptr TdiskDisk) m0 [.pointer (some ⟨g0, 0, none⟩)] (g0, d0)) (e0 : okD d0) (e1 : wD d0 ≤ 2*1000000000000) : CallR Try.prog 76 [.pointer (some ⟨g0, 0, none⟩)] W (m0) (fun v m' => v = .bool (decide ((burnD d0).2 = true)) ∧ Ow (.ptr TdiskDisk) m' [.pointer (some ⟨g0, 0, none⟩)] (g0, (burnD d0).1)) := by
  obtain ⟨hg, hfu, hst⟩ := e0; simp only [wD] at e1
  refine CallR.ofB (n := 29) hm Try.func76 rfl rfl rfl ?_
  refine VC.rs ?_
  refine VO.as ?_
  refine VO.k2 0 2 ?_
  refine VC.seq ?_
  refine VC.rs ?_
  refine VO.mv ?_
  refine VO.y rfl (.nilp rfl) ?_
  refine VO.y rfl (.fa rfl tst62 rfl) ?_
  obtain ⟨q1_E, q1_A5, q1_c5, q1_A6, q1_c6, q1_A7, q1_c7, q1_A8, q1_c8, q1_A9, q1_c9, q1_n5, q1_n6, q1_n7, q1_n8, q1_n9, _, q1_S, q1_3, q1_4, q1_5, q1_6, q1_7, q1_8, q1_9⟩ := openP_diskDisk (x0 := d0.1) (x1 := d0.2.1) (x2 := d0.2.2.1) (x3 := d0.2.2.2.1) (x4 := d0.2.2.2.2.1) (x5 := d0.2.2.2.2.2.1.1) (x6 := d0.2.2.2.2.2.1.2.1) (x7 := d0.2.2.2.2.2.1.2.2.1) (x8 := d0.2.2.2.2.2.1.2.2.2) (x9 := d0.2.2.2.2.2.2) h0
  simp only [inK] at q1_3
  simp only [inK] at q1_4
  have q1_r5 := q1_5.rm
  have q1_r6 := q1_6.rm
  have q1_r7 := q1_7.rm
  have q1_r8 := q1_8.rm
  have q1_r9 := q1_9.rm
  refine VO.inv _ (fun _ h => h.parts (i := 1) rfl q1_S [107, 102, 103, 104, 105, 106]) ?_
  refine VO.y rfl (.ld1 107 rfl tk4 rfl (cellsAt_one rfl rfl)) ?_
  refine VO.clsP 108 [107, 102, 103, 104, 105, 106] rfl (fun hg8 => (show Ow (.ptr TdiskDisk) _ _ (_, d0) from (mkP_diskDisk d0.1 d0.2.1 d0.2.2.1 d0.2.2.2.1 d0.2.2.2.2.1 d0.2.2.2.2.2.1.1 d0.2.2.2.2.2.1.2.1 d0.2.2.2.2.2.1.2.2.1 d0.2.2.2.2.2.1.2.2.2 d0.2.2.2.2.2.2 hg8 bdk bdk (OwnL.ow (Ow.ownl q1_5 rfl mnil) rfl) (OwnL.ow (Ow.ownl q1_6 rfl mnil) rfl) (OwnL.ow (Ow.ownl q1_7 rfl mnil) rfl) (OwnL.ow (Ow.ownl q1_8 rfl mnil) rfl) q1_9))) (fun mc8 ho8 => ?_)
  refine VO.k3 0 2 6 ?_
  refine VC.condB rfl (fun hc9 => ?_) (fun hc9 => ?_)
  · -- T
    refine VC.seq ?_
    refine VC.rs ?_
    refine VO.mv ?_
    refine VO.y rfl (.nilp rfl) ?_
    refine VO.y rfl (.fa rfl tst62 rfl) ?_
    obtain ⟨q10_E, q10_A5, q10_c5, q10_A6, q10_c6, q10_A7, q10_c7, q10_A8, q10_c8, q10_A9, q10_c9, q10_n5, q10_n6, q10_n7, q10_n8, q10_n9, _, q10_S, q10_3, q10_4, q10_5, q10_6, q10_7, q10_8, q10_9⟩ := openP_diskDisk (x0 := d0.1) (x1 := d0.2.1) (x2 := d0.2.2.1) (x3 := d0.2.2.2.1) (x4 := d0.2.2.2.2.1) (x5 := d0.2.2.2.2.2.1.1) (x6 := d0.2.2.2.2.2.1.2.1) (x7 := d0.2.2.2.2.2.1.2.2.1) (x8 := d0.2.2.2.2.2.1.2.2.2) (x9 := d0.2.2.2.2.2.2) ho8
    simp only [inK] at q10_3
    simp only [inK] at q10_4
    have q10_r5 := q10_5.rm
    have q10_r6 := q10_6.rm
    have q10_r7 := q10_7.rm
    have q10_r8 := q10_8.rm
    have q10_r9 := q10_9.rm
    refine VO.inv _ (fun _ h => h.parts (i := 108) rfl q10_S [116, 111, 112, 113, 114, 115]) ?_
    refine VO.y rfl (.ld1 116 rfl tk3 rfl (cellsAt_one rfl rfl)) ?_
    refine VO.y rfl (.eql rfl rfl) ?_
    refine VO.clsP 117 [116, 111, 112, 113, 114, 115] rfl (fun hg17 => (show Ow (.ptr TdiskDisk) _ _ (_, d0) from (mkP_diskDisk d0.1 d0.2.1 d0.2.2.1 d0.2.2.2.1 d0.2.2.2.2.1 d0.2.2.2.2.2.1.1 d0.2.2.2.2.2.1.2.1 d0.2.2.2.2.2.1.2.2.1 d0.2.2.2.2.2.1.2.2.2 d0.2.2.2.2.2.2 hg17 bdk bdk (OwnL.ow (Ow.ownl q10_5 rfl mnil) rfl) (OwnL.ow (Ow.ownl q10_6 rfl mnil) rfl) (OwnL.ow (Ow.ownl q10_7 rfl mnil) rfl) (OwnL.ow (Ow.ownl q10_8 rfl mnil) rfl) q10_9))) (fun mc17 ho17 => ?_)
    refine VO.kp [117, 0] [(117, mc17), (0, mout (wm W) (m0))] ?_
    refine VO.k4 0 2 6 11 ?_
    refine VC.cond rfl (fun hc18 => ?_) (fun hc18 => ?_)
    · -- TT
      refine VC.rs ?_
      refine VO.mv ?_
      refine VO.y rfl (.nilp rfl) ?_
      refine VO.y rfl (.fa rfl tst62 rfl) ?_
      obtain ⟨q19_E, q19_A5, q19_c5, q19_A6, q19_c6, q19_A7, q19_c7, q19_A8, q19_c8, q19_A9, q19_c9, q19_n5, q19_n6, q19_n7, q19_n8, q19_n9, _, q19_S, q19_3, q19_4, q19_5, q19_6, q19_7, q19_8, q19_9⟩ := openP_diskDisk (x0 := d0.1) (x1 := d0.2.1) (x2 := d0.2.2.1) (x3 := d0.2.2.2.1) (x4 := d0.2.2.2.2.1) (x5 := d0.2.2.2.2.2.1.1) (x6 := d0.2.2.2.2.2.1.2.1) (x7 := d0.2.2.2.2.2.1.2.2.1) (x8 := d0.2.2.2.2.2.1.2.2.2) (x9 := d0.2.2.2.2.2.2) ho17
      simp only [inK] at q19_3
      simp only [inK] at q19_4
      have q19_r5 := q19_5.rm
      have q19_r6 := q19_6.rm
      have q19_r7 := q19_7.rm
      have q19_r8 := q19_8.rm
      have q19_r9 := q19_9.rm
      refine VO.inv _ (fun _ h => h.parts (i := 117) rfl q19_S [125, 120, 121, 122, 123, 124]) ?_
      refine VO.store (k := 1) 125 rfl rfl (.inr ⟨tk4, rfl⟩) rfl rfl rfl rfl rfl ?_
      refine VO.clsP 126 [125, 120, 121, 122, 123, 124] rfl (fun hg26 => (mkP_diskDisk d0.1 true d0.2.2.1 d0.2.2.2.1 d0.2.2.2.2.1 d0.2.2.2.2.2.1.1 d0.2.2.2.2.2.1.2.1 d0.2.2.2.2.2.1.2.2.1 d0.2.2.2.2.2.1.2.2.2 d0.2.2.2.2.2.2 hg26 bdk bdk (OwnL.ow (Ow.ownl q19_5 rfl mnil) rfl) (OwnL.ow (Ow.ownl q19_6 rfl mnil) rfl) (OwnL.ow (Ow.ownl q19_7 rfl mnil) rfl) (OwnL.ow (Ow.ownl q19_8 rfl mnil) rfl) q19_9)) (fun mc26 ho26 => ?_)
      refine VO.k4 0 2 6 11 ?_
      refine VC.rs ?_
      refine VO.as ?_
      refine VO.k4 0 2 6 11 ?_
      refine VC.ret ?_
      refine outR ?_
      refine outR ?_
      refine ⟨_, _, res_run (rs := [.tmp 2]) rfl (.tmp rfl .nil), fun W_ hI => out_of (l := [mc26]) hI [126] rfl rfl (mle_refl _) (fun hS_ => ?_)⟩
      dsimp only [packV]
      have hm0_ : ((burnD d0).1 : DdiskDisk) = (d0.1, true, d0.2.2) := by first | rfl | (simp [burnD, *]; done)
      refine ⟨?_, ?_⟩
      rotate_left
      · rw [hm0_]; exact (Ow.up ho26 (hS_.1 _ (.head _)))
      all_goals (first | rfl | (simp [burnD, *]; done))
    · -- TF
      refine VC.skip ?_
      refine outN ?_
      refine VC.reg ?_
      refine VO.mv ?_
      refine VO.y rfl (.nilp rfl) ?_
      refine VO.y rfl (.fa rfl tst62 rfl) ?_
      obtain ⟨q27_E, q27_A5, q27_c5, q27_A6, q27_c6, q27_A7, q27_c7, q27_A8, q27_c8, q27_A9, q27_c9, q27_n5, q27_n6, q27_n7, q27_n8, q27_n9, _, q27_S, q27_3, q27_4, q27_5, q27_6, q27_7, q27_8, q27_9⟩ := openP_diskDisk (x0 := d0.1) (x1 := d0.2.1) (x2 := d0.2.2.1) (x3 := d0.2.2.2.1) (x4 := d0.2.2.2.2.1) (x5 := d0.2.2.2.2.2.1.1) (x6 := d0.2.2.2.2.2.1.2.1) (x7 := d0.2.2.2.2.2.1.2.2.1) (x8 := d0.2.2.2.2.2.1.2.2.2) (x9 := d0.2.2.2.2.2.2) ho17
      simp only [inK] at q27_3
      simp only [inK] at q27_4
      have q27_r5 := q27_5.rm
      have q27_r6 := q27_6.rm
      have q27_r7 := q27_7.rm
      have q27_r8 := q27_8.rm
      have q27_r9 := q27_9.rm
      refine VO.inv _ (fun _ h => h.parts (i := 117) rfl q27_S [133, 128, 129, 130, 131, 132]) ?_
      refine VO.y rfl (.ld1 133 rfl tk3 rfl (cellsAt_one rfl rfl)) ?_
      refine VO.y rfl (.sub rfl rfl rfl ⟨bd, bd⟩) ?_
      refine VO.y rfl (.nilp rfl) ?_
      refine VO.y rfl (.fa rfl tst62 rfl) ?_
      refine VO.store (k := 1) 133 rfl rfl (.inr ⟨tk3, rfl⟩) rfl rfl rfl rfl rfl ?_
      refine VO.clsP 134 [133, 128, 129, 130, 131, 132] rfl (fun hg34 => (mkP_diskDisk d0.1 d0.2.1 d0.2.2.1 (d0.2.2.2.1 - 1) d0.2.2.2.2.1 d0.2.2.2.2.2.1.1 d0.2.2.2.2.2.1.2.1 d0.2.2.2.2.2.1.2.2.1 d0.2.2.2.2.2.1.2.2.2 d0.2.2.2.2.2.2 hg34 bdk bdk (OwnL.ow (Ow.ownl q27_5 rfl mnil) rfl) (OwnL.ow (Ow.ownl q27_6 rfl mnil) rfl) (OwnL.ow (Ow.ownl q27_7 rfl mnil) rfl) (OwnL.ow (Ow.ownl q27_8 rfl mnil) rfl) q27_9)) (fun mc34 ho34 => ?_)
      refine VO.k4 0 2 6 11 ?_
      refine outN ?_
      refine VC.rs ?_
      refine VO.mv ?_
      refine VO.y rfl (.nilp rfl) ?_
      refine VO.y rfl (.fa rfl tst62 rfl) ?_
      obtain ⟨q35_E, q35_A5, q35_c5, q35_A6, q35_c6, q35_A7, q35_c7, q35_A8, q35_c8, q35_A9, q35_c9, q35_n5, q35_n6, q35_n7, q35_n8, q35_n9, _, q35_S, q35_3, q35_4, q35_5, q35_6, q35_7, q35_8, q35_9⟩ := openP_diskDisk (x0 := d0.1) (x1 := d0.2.1) (x2 := d0.2.2.1) (x3 := d0.2.2.2.1 - 1) (x4 := d0.2.2.2.2.1) (x5 := d0.2.2.2.2.2.1.1) (x6 := d0.2.2.2.2.2.1.2.1) (x7 := d0.2.2.2.2.2.1.2.2.1) (x8 := d0.2.2.2.2.2.1.2.2.2) (x9 := d0.2.2.2.2.2.2) ho34
      simp only [inK] at q35_3
      simp only [inK] at q35_4
      have q35_r5 := q35_5.rm
      have q35_r6 := q35_6.rm
      have q35_r7 := q35_7.rm
      have q35_r8 := q35_8.rm
      have q35_r9 := q35_9.rm
      refine VO.inv _ (fun _ h => h.parts (i := 134) rfl q35_S [141, 136, 137, 138, 139, 140]) ?_
      refine VO.y rfl (.ld1 141 rfl tk3 rfl (cellsAt_one rfl rfl)) ?_
      refine VO.y rfl (.add rfl rfl rfl ⟨bd, bd⟩) ?_
      refine VO.y rfl (.nilp rfl) ?_
      refine VO.y rfl (.fa rfl tst62 rfl) ?_
      refine VO.store (k := 1) 141 rfl rfl (.inr ⟨tk3, rfl⟩) rfl rfl rfl rfl rfl ?_
      refine VO.clsP 142 [141, 136, 137, 138, 139, 140] rfl (fun hg42 => (mkP_diskDisk d0.1 d0.2.1 d0.2.2.1 (d0.2.2.2.1 - 1) (d0.2.2.2.2.1 + 1) d0.2.2.2.2.2.1.1 d0.2.2.2.2.2.1.2.1 d0.2.2.2.2.2.1.2.2.1 d0.2.2.2.2.2.1.2.2.2 d0.2.2.2.2.2.2 hg42 bdk bdk (OwnL.ow (Ow.ownl q35_5 rfl mnil) rfl) (OwnL.ow (Ow.ownl q35_6 rfl mnil) rfl) (OwnL.ow (Ow.ownl q35_7 rfl mnil) rfl) (OwnL.ow (Ow.ownl q35_8 rfl mnil) rfl) q35_9)) (fun mc42 ho42 => ?_)
      refine VO.k4 0 2 6 11 ?_
      refine VC.rs ?_
      refine VO.as ?_
      refine VO.kp [142, 0] [(142, mc42), (0, mout (wm W) (m0))] ?_
      refine VO.k4 0 2 6 11 ?_
      refine VC.ret ?_
      refine ⟨_, _, res_run (rs := [.tmp 2]) rfl (.tmp rfl .nil), fun W_ hI => out_of (l := [mc42]) hI [142] rfl rfl (mle_refl _) (fun hS_ => ?_)⟩
      dsimp only [packV]
      have hm0_ : ((burnD d0).1 : DdiskDisk) = (d0.1, d0.2.1, d0.2.2.1, d0.2.2.2.1 - 1, d0.2.2.2.2.1 + 1, d0.2.2.2.2.2) := by first | rfl | (simp [burnD, *]; done)
      refine ⟨?_, ?_⟩
      rotate_left
      · rw [hm0_]; exact (Ow.up ho42 (hS_.1 _ (.head _)))
      all_goals (first | rfl | (simp [burnD, *]; done))
  · -- F
    refine VC.skip ?_
    refine outN ?_
    refine VC.rs ?_
    refine VO.mv ?_
    refine VO.y rfl (.nilp rfl) ?_
    refine VO.y rfl (.fa rfl tst62 rfl) ?_
    obtain ⟨q43_E, q43_A5, q43_c5, q43_A6, q43_c6, q43_A7, q43_c7, q43_A8, q43_c8, q43_A9, q43_c9, q43_n5, q43_n6, q43_n7, q43_n8, q43_n9, _, q43_S, q43_3, q43_4, q43_5, q43_6, q43_7, q43_8, q43_9⟩ := openP_diskDisk (x0 := d0.1) (x1 := d0.2.1) (x2 := d0.2.2.1) (x3 := d0.2.2.2.1) (x4 := d0.2.2.2.2.1) (x5 := d0.2.2.2.2.2.1.1) (x6 := d0.2.2.2.2.2.1.2.1) (x7 := d0.2.2.2.2.2.1.2.2.1) (x8 := d0.2.2.2.2.2.1.2.2.2) (x9 := d0.2.2.2.2.2.2) ho8
    simp only [inK] at q43_3
    simp only [inK] at q43_4
    have q43_r5 := q43_5.rm
    have q43_r6 := q43_6.rm
    have q43_r7 := q43_7.rm
    have q43_r8 := q43_8.rm
    have q43_r9 := q43_9.rm
    refine VO.inv _ (fun _ h => h.parts (i := 108) rfl q43_S [149, 144, 145, 146, 147, 148]) ?_
    refine VO.y rfl (.ld1 149 rfl tk3 rfl (cellsAt_one rfl rfl)) ?_
    refine VO.y rfl (.add rfl rfl rfl ⟨bd, bd⟩) ?_
    refine VO.y rfl (.nilp rfl) ?_
    refine VO.y rfl (.fa rfl tst62 rfl) ?_
    refine VO.store (k := 1) 149 rfl rfl (.inr ⟨tk3, rfl⟩) rfl rfl rfl rfl rfl ?_
    refine VO.clsP 150 [149, 144, 145, 146, 147, 148] rfl (fun hg50 => (mkP_diskDisk d0.1 d0.2.1 d0.2.2.1 d0.2.2.2.1 (d0.2.2.2.2.1 + 1) d0.2.2.2.2.2.1.1 d0.2.2.2.2.2.1.2.1 d0.2.2.2.2.2.1.2.2.1 d0.2.2.2.2.2.1.2.2.2 d0.2.2.2.2.2.2 hg50 bdk bdk (OwnL.ow (Ow.ownl q43_5 rfl mnil) rfl) (OwnL.ow (Ow.ownl q43_6 rfl mnil) rfl) (OwnL.ow (Ow.ownl q43_7 rfl mnil) rfl) (OwnL.ow (Ow.ownl q43_8 rfl mnil) rfl) q43_9)) (fun mc50 ho50 => ?_)
    refine VO.kp [150, 0] [(150, mc50), (0, mout (wm W) (m0))] ?_
    refine VO.k3 0 2 6 ?_
    refine VC.rs ?_
    refine VO.as ?_
    refine VO.k3 0 2 6 ?_
    refine VC.ret ?_
    refine ⟨_, _, res_run (rs := [.tmp 2]) rfl (.tmp rfl .nil), fun W_ hI => out_of (l := [mc50]) hI [150] rfl rfl (mle_refl _) (fun hS_ => ?_)⟩
    dsimp only [packV]
    have hm0_ : ((burnD d0).1 : DdiskDisk) = (d0.1, d0.2.1, d0.2.2.1, d0.2.2.2.1, d0.2.2.2.2.1 + 1, d0.2.2.2.2.2) := by first | rfl | (simp [burnD, *]; done)
    refine ⟨?_, ?_⟩
    rotate_left
    · rw [hm0_]; exact (Ow.up ho50 (hS_.1 _ (.head _)))
    all_goals (first | rfl | (simp [burnD, *]; done))
theorem dDone_ok (W : World) {m0 : Mem} (hm : mle (m0) (wm W)) {v0 : Value} {d0 : List UInt8} (h0 : Ow (.sl .byte) m0 [v0] d0) {v1 : List Value} {d1 : Ddiskstep} (h1 : Rd Tdiskstep (mout (wm W) (m0)) v1 d1) (e0 : d1.1 = 1 → 0 ≤ d1.2.2.2 ∧ d1.2.2.2 ≤ d0.length) (e1 : d0.length + d1.2.2.1.length ≤ 140737488355000) : CallR Try.prog 71 [v0, .agg v1.toArray] W (m0) (fun v m' => ∃ (s0 : Value), v = s0 ∧ Ow (.sl .byte) m' [s0] (doneB d0 d1)) := by
  obtain ⟨A0, c0, e0_, l0, k0⟩ := h0.slice
  subst e0_
  simp only [maxLen] at k0
  obtain ⟨p1_A2, p1_c2, rfl, p1_0, p1_1, p1_2, p1_3⟩ := open_diskstep (x0 := d1.1) (x1 := d1.2.1) (x2 := d1.2.2.1) (x3 := d1.2.2.2) h1
  simp only [inK] at p1_0
  simp only [inK] at p1_1
  have p1_r2 := Rd.room p1_2
  simp only [inK] at p1_3
  refine CallR.ofB (n := 20) hm Try.func71 rfl rfl rfl ?_
  refine VC.rs ?_
  refine VO.box (cs := [Value.int .i64 (d1.1), Value.int .i64 (d1.2.1), Value.slice p1_A2 (d1.2.2.1.length) (p1_c2), Value.int .i64 (d1.2.2.2)]) 102 rfl rfl rfl (fun g1 => ?_)
  refine VO.as ?_
  refine VO.k4 0 1 3 4 ?_
  refine VC.seq ?_
  refine VC.rs ?_
  refine VO.y rfl (.fa rfl tst107 rfl) ?_
  refine VO.y rfl (.ld1 102 rfl tk3 rfl (cellsAt_one rfl rfl)) ?_
  refine VO.k5 0 1 3 4 6 ?_
  refine VC.block ?_
  refine VC.rs ?_
  refine VO.y rfl (.eql rfl rfl) ?_
  refine VO.as ?_
  refine VO.kp [102, 0, 1] [(102, mone g1 (.cells [Value.int .i64 (d1.1), Value.int .i64 (d1.2.1), Value.slice p1_A2 (d1.2.2.1.length) (p1_c2), Value.int .i64 (d1.2.2.2)].toArray 107 (0, 0))), (0, mout (wm W) (m0)), (1, m0)] ?_
  refine VO.k6 0 1 3 4 6 7 ?_
  refine VC.cond rfl (fun hc3 => ?_) (fun hc3 => ?_)
  · -- T
    refine VC.rs ?_
    refine VO.mv ?_
    refine VO.y rfl (.fa rfl tst107 rfl) ?_
    refine VO.y rfl (.ld1 102 rfl tk38 rfl (cellsAt_one rfl rfl)) ?_
    obtain ⟨mo4, cs4, hM4, hA4, hC4⟩ := (Ow.ownl h0 rfl mnil)
    obtain ⟨all4, hS4, hR4⟩ := Rd.srcI (P := Try.prog) (p1_2) Try.underlying38
    refine VO.app 1 rfl rfl rfl tsl38 tz5 rfl rfl hM4 hA4 (hS4 _ 0 rfl) hR4.nice bdm bd (by decide) (fun v4 m4 hN4 => ?_)
    have ho4 : OwnL .byte m4 mnil v4 (d0 ++ d1.2.2.1) := OwnL.more hC4 hN4 (All2c.mono hR4 fun _ _ h => Rd.flat rfl h _)
    obtain ⟨A4, c4, rfl, l4, k4⟩ := ho4.slice
    simp only [maxLen] at k4
    refine VO.as ?_
    refine VO.k6 0 1 3 4 6 7 ?_
    refine VC.ret ?_
    refine outBR ?_
    refine outR ?_
    refine ⟨_, _, res_run (rs := [.tmp 4]) rfl (.tmp rfl .nil), fun W_ hI => out_of (l := [m4]) hI [1] rfl rfl (mle_refl _) (fun hS_ => ?_)⟩
    dsimp only [packV]
    have he0 : (doneB d0 d1 : Ty.Den (.sl .byte)) = d0 ++ d1.2.2.1 := by first | rfl | (simp [doneB, *]; done)
    refine ⟨Value.slice A4 ((d0 ++ d1.2.2.1).length) (c4), ?_, ?_⟩
    rotate_left
    · rw [he0]; exact (Ow.up (OwnL.ow ho4 rfl) (hS_.1 _ (.head _)))
    all_goals (first | rfl | (simp [*]; done))
  · -- F
    refine VC.rs ?_
    refine VO.y rfl (.eql rfl rfl) ?_
    refine VO.as ?_
    refine VO.k7 0 1 3 4 6 7 13 ?_
    refine VC.cond rfl (fun hc5 => ?_) (fun hc5 => ?_)
    · -- FT
      refine VC.rs ?_
      refine VO.mv ?_
      refine VO.y rfl (.fa rfl tst107 rfl) ?_
      refine VO.y rfl (.ld1 102 rfl tk3 rfl (cellsAt_one rfl rfl)) ?_
      have hs6 := (OwnL.rd (Ow.ownl h0 rfl mnil) (mle_refl _) (mle_nil _)).pre (j := ((d1.2.2.2).toNat)) bd
      refine VO.y rfl (.slHI ((d1.2.2.2).toNat) rfl rfl tsl38 bd bd) ?_
      refine VO.as ?_
      refine VO.k7 0 1 3 4 6 7 13 ?_
      refine VC.ret ?_
      refine outBR ?_
      refine outR ?_
      refine ⟨_, _, res_run (rs := [.tmp 4]) rfl (.tmp rfl .nil), fun W_ hI => out_of (l := [m0]) hI [1] rfl rfl (mle_refl _) (fun hS_ => ?_)⟩
      dsimp only [packV]
      have he0 : (doneB d0 d1 : Ty.Den (.sl .byte)) = (d0).take ((d1.2.2.2).toNat) := by first | rfl | (simp [doneB, *]; done)
      refine ⟨Value.slice A0 ((d1.2.2.2).toNat) (c0), ?_, ?_⟩
      rotate_left
      · rw [he0]; exact (Ow.up (OwnL.ow ((Ow.ownl h0 rfl mnil).pre (j := ((d1.2.2.2).toNat)) bd) rfl) (hS_.1 _ (.head _)))
      all_goals (first | rfl | (simp [*]; done))
    · -- FF
      refine VC.skip ?_
      refine outBN ?_
      refine outN ?_
      refine VC.rs ?_
      refine VO.mv ?_
      refine VO.as ?_
      refine VO.k7 0 1 3 4 6 7 13 ?_
      refine VC.ret ?_
      refine ⟨_, _, res_run (rs := [.tmp 4]) rfl (.tmp rfl .nil), fun W_ hI => out_of (l := [m0]) hI [1] rfl rfl (mle_refl _) (fun hS_ => ?_)⟩
      dsimp only [packV]
      have he0 : (doneB d0 d1 : Ty.Den (.sl .byte)) = d0 := by first | rfl | (simp [doneB, *]; done)
      refine ⟨Value.slice A0 (d0.length) (c0), ?_, ?_⟩
      rotate_left
      · rw [he0]; exact (Ow.up (OwnL.ow (Ow.ownl h0 rfl mnil) rfl) (hS_.1 _ (.head _)))
      all_goals (first | rfl | (simp [*]; done))
theorem fnOk71 : fnOk Try.prog 71 = true := by kernel_rfl
theorem tar59 : tar Try.prog 59 = some (4, 1) := by kernel_rfl
theorem tk107 : tk Try.prog 107 = some (some 4) := by kernel_rfl
theorem tk60 : tk Try.prog 60 = some none := by kernel_rfl
theorem tsl60 : tsl Try.prog 60 = some (107, 4, 48) := by kernel_rfl
theorem tz107 : tz Try.prog 107 = some [.int .i64 0, .int .i64 0, .slice none 0 0, .int .i64 0] := by kernel_rfl
theorem dHeld_ok (W : World) {m0 : Mem} (hm : mle (m0) (wm W)) {g0 : Nat} {d0 : DdiskDisk} (h0 : Ow (.ptr TdiskDisk) m0 [.pointer (some ⟨g0, 0, none⟩)] (g0, d0)) (d1 : Int) (h1 : inK .i64 d1) (e0 : okD d0) (e1 : wD d0 ≤ 2*1000000000000) (e2 : inF d1) : CallR Try.prog 74 [.pointer (some ⟨g0, 0, none⟩), .int .i64 d1] W (m0) (fun v m' => ∃ (s0 : Value), ∃ (p0 : Mem), ∃ (p1 : Mem), v = s0 ∧ Seps m' [p0, p1] ∧ Ow (.sl .byte) p0 [s0] (heldB d0.2.2.2.2.2.1 d0.2.2.2.2.2.2 d1) ∧ Ow (.ptr TdiskDisk) p1 [.pointer (some ⟨g0, 0, none⟩)] (g0, d0)) := by
  obtain ⟨hg, hfu, hst⟩ := e0; simp only [wD, sizeQ] at e1; have hin := e2; simp only [inF] at hin
  have h1' := h1; simp only [inK] at h1'
  refine CallR.ofB (n := 33) hm Try.func74 rfl rfl rfl ?_
  refine VC.rs ?_
  refine VO.as ?_
  refine VO.k3 0 1 4 ?_
  refine VC.seqJ (G := (List UInt8) × (Option Addr) × Nat × Mem × Mem) (fun g => [(5, Value.slice (g.2.1) ((g.1).length) ((g.2.2.1))), (0, Value.pointer (some ⟨g0, 0, none⟩)), (1, Value.int .i64 (d1)), (4, Value.slice none (0) (0))]) (fun g => [(111, (g.2.2.2.2)), (110, (g.2.2.2.1)), (0, mout (wm W) (m0))]) (fun g => ((g.1) = heldB d0.2.2.2.2.2.1 (d0.2.2.2.2.2.2.take 0) d1) ∧ (OwnL .byte (g.2.2.2.1) mnil (.slice (g.2.1) (g.1).length (g.2.2.1)) (g.1)) ∧ (Ow (.ptr TdiskDisk) (g.2.2.2.2) [.pointer (some ⟨g0, 0, none⟩)] (g0, d0))) ?_ ?_
  · -- 0J
    rintro ⟨bj, bj_A, bj_c, bj_m, dd_m⟩ ⟨hbj, h_bj, h_dd⟩
    replace hbj : bj = heldB d0.2.2.2.2.2.1 (d0.2.2.2.2.2.2.take 0) d1 := hbj
    replace h_bj : OwnL .byte bj_m mnil (.slice bj_A bj.length bj_c) bj := h_bj
    replace h_dd : Ow (.ptr TdiskDisk) dd_m [.pointer (some ⟨g0, 0, none⟩)] (g0, d0) := h_dd
    show VC _ _ _ _ _ [(5, Value.slice bj_A (bj.length) (bj_c)), (0, Value.pointer (some ⟨g0, 0, none⟩)), (1, Value.int .i64 (d1)), (4, Value.slice none (0) (0))] [(111, dd_m), (110, bj_m), (0, mout (wm W) (m0))]
    have l_bj : bj.length ≤ bj_c := by obtain ⟨_, _, he, hl, _⟩ := h_bj.slice; simp only [Value.slice.injEq] at he; omega
    have k_bj : bj_c ≤ 9223372036854775807 := by obtain ⟨_, _, he, _, hl⟩ := h_bj.slice; simp only [Value.slice.injEq, maxLen] at he hl; omega
    refine VC.seq ?_
    refine VC.rs ?_
    refine VO.mv ?_
    refine VO.y rfl (.nilp rfl) ?_
    refine VO.y rfl (.fa rfl tst62 rfl) ?_
    obtain ⟨q12_E, q12_A5, q12_c5, q12_A6, q12_c6, q12_A7, q12_c7, q12_A8, q12_c8, q12_A9, q12_c9, q12_n5, q12_n6, q12_n7, q12_n8, q12_n9, _, q12_S, q12_3, q12_4, q12_5, q12_6, q12_7, q12_8, q12_9⟩ := openP_diskDisk (x0 := d0.1) (x1 := d0.2.1) (x2 := d0.2.2.1) (x3 := d0.2.2.2.1) (x4 := d0.2.2.2.2.1) (x5 := d0.2.2.2.2.2.1.1) (x6 := d0.2.2.2.2.2.1.2.1) (x7 := d0.2.2.2.2.2.1.2.2.1) (x8 := d0.2.2.2.2.2.1.2.2.2) (x9 := d0.2.2.2.2.2.2) h_dd
    simp only [inK] at q12_3
    simp only [inK] at q12_4
    have q12_r5 := q12_5.rm
    have q12_r6 := q12_6.rm
    have q12_r7 := q12_7.rm
    have q12_r8 := q12_8.rm
    have q12_r9 := q12_9.rm
    refine VO.inv _ (fun _ h => h.parts (i := 111) rfl q12_S [118, 113, 114, 115, 116, 117]) ?_
    refine VO.y rfl (.ld1 118 rfl tk60 rfl (cellsAt_one rfl rfl)) ?_
    refine VO.y rfl (.lenS rfl tsl60) ?_
    refine VO.mv ?_
    refine VO.kp [118, 113, 114, 115, 116, 117, 110, 0] [(118, mone g0 (.cells [Value.bool d0.1, Value.bool d0.2.1, Value.bool d0.2.2.1, Value.int .i64 (d0.2.2.2.1), Value.int .i64 (d0.2.2.2.2.1), Value.slice q12_A5 (d0.2.2.2.2.2.1.1.length) (q12_c5), Value.slice q12_A6 (d0.2.2.2.2.2.1.2.1.length) (q12_c6), Value.slice q12_A7 (d0.2.2.2.2.2.1.2.2.1.length) (q12_c7), Value.slice q12_A8 (d0.2.2.2.2.2.1.2.2.2.length) (q12_c8), Value.slice q12_A9 (d0.2.2.2.2.2.2.length) (q12_c9)].toArray q12_E (0, 0))), (113, q12_n5), (114, q12_n6), (115, q12_n7), (116, q12_n8), (117, q12_n9), (110, bj_m), (0, mout (wm W) (m0))] ?_
    refine VO.k7 0 1 4 5 18 19 20 ?_
    refine VC.block ?_
    refine VC.loop (G := Nat × (List UInt8) × (Option Addr) × Nat × Mem) (fun g => [(5, Value.slice (g.2.2.1) ((g.2.1).length) ((g.2.2.2.1))), (20, Value.int .i64 ((((g.1) : Nat) : Int))), (0, Value.pointer (some ⟨g0, 0, none⟩)), (1, Value.int .i64 (d1)), (4, Value.slice none (0) (0)), (18, Value.slice q12_A9 (d0.2.2.2.2.2.2.length) (q12_c9)), (19, Value.int .i64 (((d0.2.2.2.2.2.2.length : Nat) : Int)))]) (fun g => [(118, mone g0 (.cells [Value.bool d0.1, Value.bool d0.2.1, Value.bool d0.2.2.1, Value.int .i64 (d0.2.2.2.1), Value.int .i64 (d0.2.2.2.2.1), Value.slice q12_A5 (d0.2.2.2.2.2.1.1.length) (q12_c5), Value.slice q12_A6 (d0.2.2.2.2.2.1.2.1.length) (q12_c6), Value.slice q12_A7 (d0.2.2.2.2.2.1.2.2.1.length) (q12_c7), Value.slice q12_A8 (d0.2.2.2.2.2.1.2.2.2.length) (q12_c8), Value.slice q12_A9 (d0.2.2.2.2.2.2.length) (q12_c9)].toArray q12_E (0, 0))), (113, q12_n5), (114, q12_n6), (115, q12_n7), (116, q12_n8), (117, q12_n9), (110, (g.2.2.2.2)), (0, mout (wm W) (m0))]) (fun g => ((g.1) ≤ d0.2.2.2.2.2.2.length) ∧ ((g.2.1) = heldB d0.2.2.2.2.2.1 (d0.2.2.2.2.2.2.take (g.1)) d1) ∧ (OwnL .byte (g.2.2.2.2) mnil (.slice (g.2.2.1) (g.2.1).length (g.2.2.2.1)) (g.2.1))) (fun g => d0.2.2.2.2.2.2.length - (g.1)) (0, bj, bj_A, bj_c, bj_m) (⟨by omega, by exact hbj, h_bj⟩) ⟨⟨rfl, rfl, rfl, rfl, rfl, rfl, rfl, trivial⟩, fun _ h => h.sub [118, 113, 114, 115, 116, 117, 110, 0]⟩ ?_
    rintro ⟨k, b, b_A, b_c, b_m⟩ ⟨hk, hb, h_b⟩
    replace hk : k ≤ d0.2.2.2.2.2.2.length := hk
    replace hb : b = heldB d0.2.2.2.2.2.1 (d0.2.2.2.2.2.2.take k) d1 := hb
    replace h_b : OwnL .byte b_m mnil (.slice b_A b.length b_c) b := h_b
    show VC _ _ _ _ _ [(5, Value.slice b_A (b.length) (b_c)), (20, Value.int .i64 (((k : Nat) : Int))), (0, Value.pointer (some ⟨g0, 0, none⟩)), (1, Value.int .i64 (d1)), (4, Value.slice none (0) (0)), (18, Value.slice q12_A9 (d0.2.2.2.2.2.2.length) (q12_c9)), (19, Value.int .i64 (((d0.2.2.2.2.2.2.length : Nat) : Int)))] [(118, mone g0 (.cells [Value.bool d0.1, Value.bool d0.2.1, Value.bool d0.2.2.1, Value.int .i64 (d0.2.2.2.1), Value.int .i64 (d0.2.2.2.2.1), Value.slice q12_A5 (d0.2.2.2.2.2.1.1.length) (q12_c5), Value.slice q12_A6 (d0.2.2.2.2.2.1.2.1.length) (q12_c6), Value.slice q12_A7 (d0.2.2.2.2.2.1.2.2.1.length) (q12_c7), Value.slice q12_A8 (d0.2.2.2.2.2.1.2.2.2.length) (q12_c8), Value.slice q12_A9 (d0.2.2.2.2.2.2.length) (q12_c9)].toArray q12_E (0, 0))), (113, q12_n5), (114, q12_n6), (115, q12_n7), (116, q12_n8), (117, q12_n9), (110, b_m), (0, mout (wm W) (m0))]
    have l_b : b.length ≤ b_c := by obtain ⟨_, _, he, hl, _⟩ := h_b.slice; simp only [Value.slice.injEq] at he; omega
    have k_b : b_c ≤ 9223372036854775807 := by obtain ⟨_, _, he, _, hl⟩ := h_b.slice; simp only [Value.slice.injEq, maxLen] at he hl; omega
    refine VC.rs ?_
    refine VO.y rfl (.lss rfl rfl) ?_
    refine VO.k8 0 1 4 5 18 19 20 21 ?_
    refine VC.seq ?_
    refine VC.cond rfl (fun hc19 => ?_) (fun hc19 => ?_)
    · -- 0JT
      refine VC.skip ?_
      refine outN ?_
      refine VC.seq ?_
      refine VC.block ?_
      refine VC.rs ?_
      obtain ⟨x20, hx20⟩ : ∃ z_, (d0.2.2.2.2.2.2)[k]? = some z_ := ⟨_, List.getElem?_eq_getElem bd⟩
      obtain ⟨gg20, oo20, ec20, ea20, hce20, hre20⟩ := (Ow.rd q12_9 (mle_refl _)).elem hx20
      cases ea20
      obtain ⟨q20_A2, q20_c2, rfl, q20_0, q20_1, q20_2, q20_3⟩ := open_diskstep (x0 := x20.1) (x1 := x20.2.1) (x2 := x20.2.2.1) (x3 := x20.2.2.2) hre20
      simp only [inK] at q20_0
      simp only [inK] at q20_1
      have q20_r2 := Rd.room q20_2
      simp only [inK] at q20_3
      refine VO.y rfl (.ixI k rfl rfl tsl60 rfl bd) ?_
      refine VO.y rfl (.ldA 117 rfl tk107 rfl hce20) ?_
      refine VO.alloc 122 rfl tz107 (fun g21 => ?_)
      refine VO.store (k := 4) (c' := [Value.int .i64 (x20.1), Value.int .i64 (x20.2.1), Value.slice q20_A2 (x20.2.2.1.length) (q20_c2), Value.int .i64 (x20.2.2.2)]) 122 rfl rfl (.inl tk107) rfl rfl rfl rfl rfl ?_
      refine VO.k9 0 1 4 5 7 18 19 20 21 ?_
      refine VC.rs ?_
      refine VO.y rfl (.fa rfl tst107 rfl) ?_
      refine VO.y rfl (.ld1 122 rfl tk3 rfl (cellsAt_one rfl rfl)) ?_
      refine VO.mv ?_
      refine VO.y rfl (.eql rfl rfl) ?_
      refine VO.kp [122, 118, 113, 114, 115, 116, 117, 110, 0] [(122, mone g21 (.cells [Value.int .i64 (x20.1), Value.int .i64 (x20.2.1), Value.slice q20_A2 (x20.2.2.1.length) (q20_c2), Value.int .i64 (x20.2.2.2)].toArray 107 (0, 0))), (118, mone g0 (.cells [Value.bool d0.1, Value.bool d0.2.1, Value.bool d0.2.2.1, Value.int .i64 (d0.2.2.2.1), Value.int .i64 (d0.2.2.2.2.1), Value.slice q12_A5 (d0.2.2.2.2.2.1.1.length) (q12_c5), Value.slice q12_A6 (d0.2.2.2.2.2.1.2.1.length) (q12_c6), Value.slice q12_A7 (d0.2.2.2.2.2.1.2.2.1.length) (q12_c7), Value.slice q12_A8 (d0.2.2.2.2.2.1.2.2.2.length) (q12_c8), Value.slice (some ⟨gg20, oo20, none⟩) (d0.2.2.2.2.2.2.length) (q12_c9)].toArray q12_E (0, 0))), (113, q12_n5), (114, q12_n6), (115, q12_n7), (116, q12_n8), (117, q12_n9), (110, b_m), (0, mout (wm W) (m0))] ?_
      refine VO.k10 0 1 4 5 7 18 19 20 21 27 ?_
      refine VC.cond rfl (fun hc23 => ?_) (fun hc23 => ?_)
      · -- 0JTT
        refine VC.reg ?_
        refine VO.mv ?_
        refine VO.y rfl (.ldA 122 rfl tk107 rfl (cellsAt_one rfl rfl)) ?_
        refine VO.call 110 rfl fnOk71 rfl rfl (fun W hW => dDone_ok W (hW.at (i := 110) rfl) (OwnL.ow h_b rfl) (Rd.mono hre20 (hW.out (i := 110) (j := 117) rfl rfl)) (by exact held_cut hg hb ‹d0.2.2.2.2.2.2[k]? = some _› e2 ‹_ = d1›) (by (have h_ := held_room hb ‹d0.2.2.2.2.2.2[k]? = some _›; simp only [sizeQ] at h_; omega))) (fun v24 m24 hv24 => ?_)
        obtain ⟨s24_0, rfl, f24_0⟩ := hv24
        obtain ⟨A24_0, c24_0, eq24_0, l24_0, k24_0⟩ := f24_0.slice
        subst eq24_0
        simp only [maxLen] at k24_0
        refine VO.as ?_
        refine VO.k10 0 1 4 5 7 18 19 20 21 27 ?_
        refine outBN ?_
        refine outN ?_
        refine VC.reg ?_
        refine VO.y rfl (.add (c := ((k + 1 : Nat) : Int)) rfl rfl (by omega) ⟨bd, bd⟩) ?_
        refine VO.mv ?_
        refine VO.k10 0 1 4 5 7 18 19 20 21 27 ?_
        exact outN ⟨⟨k + 1, doneB b x20, A24_0, c24_0, m24⟩, ⟨by omega, by first | exact held_yes hb ‹d0.2.2.2.2.2.2[k]? = some _› ‹_ = d1› | exact held_no hb ‹d0.2.2.2.2.2.2[k]? = some _› ‹¬ _ = d1›, (Ow.ownl f24_0 rfl mnil)⟩, bd, ⟨⟨rfl, rfl, rfl, rfl, rfl, rfl, rfl, trivial⟩, fun _ h => Inv.sub h [118, 113, 114, 115, 116, 117, 110, 0]⟩⟩
      · -- 0JTF
        refine VC.skip ?_
        refine outBN ?_
        refine outN ?_
        refine VC.reg ?_
        refine VO.y rfl (.add (c := ((k + 1 : Nat) : Int)) rfl rfl (by omega) ⟨bd, bd⟩) ?_
        refine VO.mv ?_
        refine VO.k10 0 1 4 5 7 18 19 20 21 27 ?_
        exact outN ⟨⟨k + 1, b, b_A, b_c, b_m⟩, ⟨by omega, by first | exact held_yes hb ‹d0.2.2.2.2.2.2[k]? = some _› ‹_ = d1› | exact held_no hb ‹d0.2.2.2.2.2.2[k]? = some _› ‹¬ _ = d1›, h_b⟩, bd, ⟨⟨rfl, rfl, rfl, rfl, rfl, rfl, rfl, trivial⟩, fun _ h => Inv.sub h [118, 113, 114, 115, 116, 117, 110, 0]⟩⟩
    · -- 0JF
      refine VC.exit ?_
      refine outE ?_
      refine outE ?_
      refine outBB ?_
      refine outN ?_
      refine VC.rs ?_
      refine VO.mv ?_
      refine VO.as ?_
      refine VO.k8 0 1 4 5 18 19 20 21 ?_
      refine VC.ret ?_
      refine ⟨_, _, res_run (rs := [.tmp 4]) rfl (.tmp rfl .nil), fun W_ hI => out_of (l := [b_m, mone g0 (.cells [Value.bool d0.1, Value.bool d0.2.1, Value.bool d0.2.2.1, Value.int .i64 (d0.2.2.2.1), Value.int .i64 (d0.2.2.2.2.1), Value.slice q12_A5 (d0.2.2.2.2.2.1.1.length) (q12_c5), Value.slice q12_A6 (d0.2.2.2.2.2.1.2.1.length) (q12_c6), Value.slice q12_A7 (d0.2.2.2.2.2.1.2.2.1.length) (q12_c7), Value.slice q12_A8 (d0.2.2.2.2.2.1.2.2.2.length) (q12_c8), Value.slice q12_A9 (d0.2.2.2.2.2.2.length) (q12_c9)].toArray q12_E (0, 0)), q12_n5, q12_n6, q12_n7, q12_n8, q12_n9]) hI [110, 118, 113, 114, 115, 116, 117] rfl rfl (mle_refl _) (fun hS_ => ?_)⟩
      dsimp only [packV]
      have he0 : (heldB d0.2.2.2.2.2.1 d0.2.2.2.2.2.2 d1 : Ty.Den (.sl .byte)) = b := by first | rfl | (rw [hb, List.take_of_length_le (by omega)])
      have hm0_ : (d0 : DdiskDisk) = d0 := by first | rfl | (rw [hb, List.take_of_length_le (by omega)])
      refine ⟨Value.slice b_A (b.length) (b_c), muns [b_m], muns [mone g0 (.cells [Value.bool d0.1, Value.bool d0.2.1, Value.bool d0.2.2.1, Value.int .i64 (d0.2.2.2.1), Value.int .i64 (d0.2.2.2.2.1), Value.slice q12_A5 (d0.2.2.2.2.2.1.1.length) (q12_c5), Value.slice q12_A6 (d0.2.2.2.2.2.1.2.1.length) (q12_c6), Value.slice q12_A7 (d0.2.2.2.2.2.1.2.2.1.length) (q12_c7), Value.slice q12_A8 (d0.2.2.2.2.2.1.2.2.2.length) (q12_c8), Value.slice q12_A9 (d0.2.2.2.2.2.2.length) (q12_c9)].toArray q12_E (0, 0)), q12_n5, q12_n6, q12_n7, q12_n8, q12_n9], ?_, ?_, ?_, ?_⟩
      rotate_left
      · exact Seps.grp (ls := [[b_m], [mone g0 (.cells [Value.bool d0.1, Value.bool d0.2.1, Value.bool d0.2.2.1, Value.int .i64 (d0.2.2.2.1), Value.int .i64 (d0.2.2.2.2.1), Value.slice q12_A5 (d0.2.2.2.2.2.1.1.length) (q12_c5), Value.slice q12_A6 (d0.2.2.2.2.2.1.2.1.length) (q12_c6), Value.slice q12_A7 (d0.2.2.2.2.2.1.2.2.1.length) (q12_c7), Value.slice q12_A8 (d0.2.2.2.2.2.1.2.2.2.length) (q12_c8), Value.slice q12_A9 (d0.2.2.2.2.2.2.length) (q12_c9)].toArray q12_E (0, 0)), q12_n5, q12_n6, q12_n7, q12_n8, q12_n9]]) hS_
      · rw [he0]; exact (Ow.up (OwnL.ow h_b rfl) ((Seps.self hS_ (List.Sublist.cons_cons _ (List.Sublist.cons _ (List.Sublist.cons _ (List.Sublist.cons _ (List.Sublist.cons _ (List.Sublist.cons _ (List.Sublist.cons _ List.Sublist.slnil)))))))).1 _ (.head _)))
      · rw [hm0_]; exact (show Ow (.ptr TdiskDisk) _ _ (_, d0) from (mkP_diskDisk d0.1 d0.2.1 d0.2.2.1 d0.2.2.2.1 d0.2.2.2.2.1 d0.2.2.2.2.2.1.1 d0.2.2.2.2.2.1.2.1 d0.2.2.2.2.2.1.2.2.1 d0.2.2.2.2.2.1.2.2.2 d0.2.2.2.2.2.2 (Seps.self hS_ (List.Sublist.cons _ (List.Sublist.cons_cons _ (List.Sublist.cons_cons _ (List.Sublist.cons_cons _ (List.Sublist.cons_cons _ (List.Sublist.cons_cons _ (List.Sublist.cons_cons _ List.Sublist.slnil)))))))) bdk bdk (OwnL.ow (Ow.ownl q12_5 rfl mnil) rfl) (OwnL.ow (Ow.ownl q12_6 rfl mnil) rfl) (OwnL.ow (Ow.ownl q12_7 rfl mnil) rfl) (OwnL.ow (Ow.ownl q12_8 rfl mnil) rfl) q12_9))
      all_goals (first | rfl | (simp [*]; done))
  · -- A
    intro hJ1
    refine VC.reg ?_
    refine VO.mv ?_
    refine VO.mv ?_
    refine VO.y rfl (.nilp rfl) ?_
    refine VO.y rfl (.fa rfl tst62 rfl) ?_
    rcases (show d1 = (0 : Int) ∨ d1 = (1 : Int) ∨ d1 = (2 : Int) ∨ d1 = (3 : Int) from by first | omega | (simp only [List.length_append, List.length_nil, List.length_cons, List.length_take, List.length_drop] at *; omega)) with hi25 | hi25 | hi25 | hi25
    · -- A0
      refine VO.y rfl (.ixa (i := 0) (o := 5) rfl rfl tar59 hi25 rfl rfl) ?_
      obtain ⟨q26_E, q26_A5, q26_c5, q26_A6, q26_c6, q26_A7, q26_c7, q26_A8, q26_c8, q26_A9, q26_c9, q26_n5, q26_n6, q26_n7, q26_n8, q26_n9, _, q26_S, q26_3, q26_4, q26_5, q26_6, q26_7, q26_8, q26_9⟩ := openP_diskDisk (x0 := d0.1) (x1 := d0.2.1) (x2 := d0.2.2.1) (x3 := d0.2.2.2.1) (x4 := d0.2.2.2.2.1) (x5 := d0.2.2.2.2.2.1.1) (x6 := d0.2.2.2.2.2.1.2.1) (x7 := d0.2.2.2.2.2.1.2.2.1) (x8 := d0.2.2.2.2.2.1.2.2.2) (x9 := d0.2.2.2.2.2.2) h0
      simp only [inK] at q26_3
      simp only [inK] at q26_4
      have q26_r5 := q26_5.rm
      have q26_r6 := q26_6.rm
      have q26_r7 := q26_7.rm
      have q26_r8 := q26_8.rm
      have q26_r9 := q26_9.rm
      refine VO.inv _ (fun _ h => h.parts (i := 1) rfl q26_S [132, 127, 128, 129, 130, 131]) ?_
      refine VO.y rfl (.ld1 132 rfl tk38 rfl (cellsAt_one rfl rfl)) ?_
      refine VO.inv _ (fun _ h => h.nilc 134) ?_
      obtain ⟨mo33, cs33, hM33, hA33, hC33⟩ := (OwnL.nil .byte mnil mnil)
      obtain ⟨all33, hS33, hR33⟩ := Rd.srcI (P := Try.prog) ((OwnL.rd (Ow.ownl q26_5 rfl mnil) (mle_refl _) (mle_nil _))) Try.underlying38
      refine VO.app 134 rfl rfl rfl tsl38 tz5 rfl rfl hM33 hA33 (hS33 _ 127 rfl) hR33.nice bdm bd (by decide) (fun v33 m33 hN33 => ?_)
      have ho33 : OwnL .byte m33 mnil v33 (d0.2.2.2.2.2.1.1) := OwnL.more hC33 hN33 (All2c.mono hR33 fun _ _ h => Rd.flat rfl h _)
      obtain ⟨A33, c33, rfl, l33, k33⟩ := ho33.slice
      simp only [maxLen] at k33
      refine VO.as ?_
      refine VO.clsP 135 [132, 127, 128, 129, 130, 131] rfl (fun hg35 => (show Ow (.ptr TdiskDisk) _ _ (_, d0) from (mkP_diskDisk d0.1 d0.2.1 d0.2.2.1 d0.2.2.2.1 d0.2.2.2.2.1 d0.2.2.2.2.2.1.1 d0.2.2.2.2.2.1.2.1 d0.2.2.2.2.2.1.2.2.1 d0.2.2.2.2.2.1.2.2.2 d0.2.2.2.2.2.2 hg35 bdk bdk (OwnL.ow (Ow.ownl q26_5 rfl mnil) rfl) (OwnL.ow (Ow.ownl q26_6 rfl mnil) rfl) (OwnL.ow (Ow.ownl q26_7 rfl mnil) rfl) (OwnL.ow (Ow.ownl q26_8 rfl mnil) rfl) q26_9))) (fun mc35 ho35 => ?_)
      refine VO.k4 0 1 4 5 ?_
      exact outN (hJ1 ⟨d0.2.2.2.2.2.1.1, A33, c33, m33, mc35⟩ _ _ ⟨by first | exact (getF0 ‹d1 = (0 : Int)›).symm | exact (getF1 ‹d1 = (1 : Int)›).symm | exact (getF2 ‹d1 = (2 : Int)›).symm | exact (getF3 ‹d1 = (3 : Int)›).symm, ho33, ho35⟩ ⟨⟨rfl, rfl, rfl, rfl, trivial⟩, fun _ h => Inv.sub (Inv.num (Inv.num h 134 110 rfl) 135 111 rfl) [111, 110, 0]⟩)
    · -- A1
      refine VO.y rfl (.ixa (i := 1) (o := 6) rfl rfl tar59 hi25 rfl rfl) ?_
      obtain ⟨q36_E, q36_A5, q36_c5, q36_A6, q36_c6, q36_A7, q36_c7, q36_A8, q36_c8, q36_A9, q36_c9, q36_n5, q36_n6, q36_n7, q36_n8, q36_n9, _, q36_S, q36_3, q36_4, q36_5, q36_6, q36_7, q36_8, q36_9⟩ := openP_diskDisk (x0 := d0.1) (x1 := d0.2.1) (x2 := d0.2.2.1) (x3 := d0.2.2.2.1) (x4 := d0.2.2.2.2.1) (x5 := d0.2.2.2.2.2.1.1) (x6 := d0.2.2.2.2.2.1.2.1) (x7 := d0.2.2.2.2.2.1.2.2.1) (x8 := d0.2.2.2.2.2.1.2.2.2) (x9 := d0.2.2.2.2.2.2) h0
      simp only [inK] at q36_3
      simp only [inK] at q36_4
      have q36_r5 := q36_5.rm
      have q36_r6 := q36_6.rm
      have q36_r7 := q36_7.rm
      have q36_r8 := q36_8.rm
      have q36_r9 := q36_9.rm
      refine VO.inv _ (fun _ h => h.parts (i := 1) rfl q36_S [142, 137, 138, 139, 140, 141]) ?_
      refine VO.y rfl (.ld1 142 rfl tk38 rfl (cellsAt_one rfl rfl)) ?_
      refine VO.inv _ (fun _ h => h.nilc 144) ?_
      obtain ⟨mo43, cs43, hM43, hA43, hC43⟩ := (OwnL.nil .byte mnil mnil)
      obtain ⟨all43, hS43, hR43⟩ := Rd.srcI (P := Try.prog) ((OwnL.rd (Ow.ownl q36_6 rfl mnil) (mle_refl _) (mle_nil _))) Try.underlying38
      refine VO.app 144 rfl rfl rfl tsl38 tz5 rfl rfl hM43 hA43 (hS43 _ 138 rfl) hR43.nice bdm bd (by decide) (fun v43 m43 hN43 => ?_)
      have ho43 : OwnL .byte m43 mnil v43 (d0.2.2.2.2.2.1.2.1) := OwnL.more hC43 hN43 (All2c.mono hR43 fun _ _ h => Rd.flat rfl h _)
      obtain ⟨A43, c43, rfl, l43, k43⟩ := ho43.slice
      simp only [maxLen] at k43
      refine VO.as ?_
      refine VO.clsP 145 [142, 137, 138, 139, 140, 141] rfl (fun hg45 => (show Ow (.ptr TdiskDisk) _ _ (_, d0) from (mkP_diskDisk d0.1 d0.2.1 d0.2.2.1 d0.2.2.2.1 d0.2.2.2.2.1 d0.2.2.2.2.2.1.1 d0.2.2.2.2.2.1.2.1 d0.2.2.2.2.2.1.2.2.1 d0.2.2.2.2.2.1.2.2.2 d0.2.2.2.2.2.2 hg45 bdk bdk (OwnL.ow (Ow.ownl q36_5 rfl mnil) rfl) (OwnL.ow (Ow.ownl q36_6 rfl mnil) rfl) (OwnL.ow (Ow.ownl q36_7 rfl mnil) rfl) (OwnL.ow (Ow.ownl q36_8 rfl mnil) rfl) q36_9))) (fun mc45 ho45 => ?_)
      refine VO.k4 0 1 4 5 ?_
      exact outN (hJ1 ⟨d0.2.2.2.2.2.1.2.1, A43, c43, m43, mc45⟩ _ _ ⟨by first | exact (getF0 ‹d1 = (0 : Int)›).symm | exact (getF1 ‹d1 = (1 : Int)›).symm | exact (getF2 ‹d1 = (2 : Int)›).symm | exact (getF3 ‹d1 = (3 : Int)›).symm, ho43, ho45⟩ ⟨⟨rfl, rfl, rfl, rfl, trivial⟩, fun _ h => Inv.sub (Inv.num (Inv.num h 144 110 rfl) 145 111 rfl) [111, 110, 0]⟩)
    · -- A2
      refine VO.y rfl (.ixa (i := 2) (o := 7) rfl rfl tar59 hi25 rfl rfl) ?_
      obtain ⟨q46_E, q46_A5, q46_c5, q46_A6, q46_c6, q46_A7, q46_c7, q46_A8, q46_c8, q46_A9, q46_c9, q46_n5, q46_n6, q46_n7, q46_n8, q46_n9, _, q46_S, q46_3, q46_4, q46_5, q46_6, q46_7, q46_8, q46_9⟩ := openP_diskDisk (x0 := d0.1) (x1 := d0.2.1) (x2 := d0.2.2.1) (x3 := d0.2.2.2.1) (x4 := d0.2.2.2.2.1) (x5 := d0.2.2.2.2.2.1.1) (x6 := d0.2.2.2.2.2.1.2.1) (x7 := d0.2.2.2.2.2.1.2.2.1) (x8 := d0.2.2.2.2.2.1.2.2.2) (x9 := d0.2.2.2.2.2.2) h0
      simp only [inK] at q46_3
      simp only [inK] at q46_4
      have q46_r5 := q46_5.rm
      have q46_r6 := q46_6.rm
      have q46_r7 := q46_7.rm
      have q46_r8 := q46_8.rm
      have q46_r9 := q46_9.rm
      refine VO.inv _ (fun _ h => h.parts (i := 1) rfl q46_S [152, 147, 148, 149, 150, 151]) ?_
      refine VO.y rfl (.ld1 152 rfl tk38 rfl (cellsAt_one rfl rfl)) ?_
      refine VO.inv _ (fun _ h => h.nilc 154) ?_
      obtain ⟨mo53, cs53, hM53, hA53, hC53⟩ := (OwnL.nil .byte mnil mnil)
      obtain ⟨all53, hS53, hR53⟩ := Rd.srcI (P := Try.prog) ((OwnL.rd (Ow.ownl q46_7 rfl mnil) (mle_refl _) (mle_nil _))) Try.underlying38
      refine VO.app 154 rfl rfl rfl tsl38 tz5 rfl rfl hM53 hA53 (hS53 _ 149 rfl) hR53.nice bdm bd (by decide) (fun v53 m53 hN53 => ?_)
      have ho53 : OwnL .byte m53 mnil v53 (d0.2.2.2.2.2.1.2.2.1) := OwnL.more hC53 hN53 (All2c.mono hR53 fun _ _ h => Rd.flat rfl h _)
      obtain ⟨A53, c53, rfl, l53, k53⟩ := ho53.slice
      simp only [maxLen] at k53
      refine VO.as ?_
      refine VO.clsP 155 [152, 147, 148, 149, 150, 151] rfl (fun hg55 => (show Ow (.ptr TdiskDisk) _ _ (_, d0) from (mkP_diskDisk d0.1 d0.2.1 d0.2.2.1 d0.2.2.2.1 d0.2.2.2.2.1 d0.2.2.2.2.2.1.1 d0.2.2.2.2.2.1.2.1 d0.2.2.2.2.2.1.2.2.1 d0.2.2.2.2.2.1.2.2.2 d0.2.2.2.2.2.2 hg55 bdk bdk (OwnL.ow (Ow.ownl q46_5 rfl mnil) rfl) (OwnL.ow (Ow.ownl q46_6 rfl mnil) rfl) (OwnL.ow (Ow.ownl q46_7 rfl mnil) rfl) (OwnL.ow (Ow.ownl q46_8 rfl mnil) rfl) q46_9))) (fun mc55 ho55 => ?_)
      refine VO.k4 0 1 4 5 ?_
      exact outN (hJ1 ⟨d0.2.2.2.2.2.1.2.2.1, A53, c53, m53, mc55⟩ _ _ ⟨by first | exact (getF0 ‹d1 = (0 : Int)›).symm | exact (getF1 ‹d1 = (1 : Int)›).symm | exact (getF2 ‹d1 = (2 : Int)›).symm | exact (getF3 ‹d1 = (3 : Int)›).symm, ho53, ho55⟩ ⟨⟨rfl, rfl, rfl, rfl, trivial⟩, fun _ h => Inv.sub (Inv.num (Inv.num h 154 110 rfl) 155 111 rfl) [111, 110, 0]⟩)
    · -- A3
      refine VO.y rfl (.ixa (i := 3) (o := 8) rfl rfl tar59 hi25 rfl rfl) ?_
      obtain ⟨q56_E, q56_A5, q56_c5, q56_A6, q56_c6, q56_A7, q56_c7, q56_A8, q56_c8, q56_A9, q56_c9, q56_n5, q56_n6, q56_n7, q56_n8, q56_n9, _, q56_S, q56_3, q56_4, q56_5, q56_6, q56_7, q56_8, q56_9⟩ := openP_diskDisk (x0 := d0.1) (x1 := d0.2.1) (x2 := d0.2.2.1) (x3 := d0.2.2.2.1) (x4 := d0.2.2.2.2.1) (x5 := d0.2.2.2.2.2.1.1) (x6 := d0.2.2.2.2.2.1.2.1) (x7 := d0.2.2.2.2.2.1.2.2.1) (x8 := d0.2.2.2.2.2.1.2.2.2) (x9 := d0.2.2.2.2.2.2) h0
      simp only [inK] at q56_3
      simp only [inK] at q56_4
      have q56_r5 := q56_5.rm
      have q56_r6 := q56_6.rm
      have q56_r7 := q56_7.rm
      have q56_r8 := q56_8.rm
      have q56_r9 := q56_9.rm
      refine VO.inv _ (fun _ h => h.parts (i := 1) rfl q56_S [162, 157, 158, 159, 160, 161]) ?_
      refine VO.y rfl (.ld1 162 rfl tk38 rfl (cellsAt_one rfl rfl)) ?_
      refine VO.inv _ (fun _ h => h.nilc 164) ?_
      obtain ⟨mo63, cs63, hM63, hA63, hC63⟩ := (OwnL.nil .byte mnil mnil)
      obtain ⟨all63, hS63, hR63⟩ := Rd.srcI (P := Try.prog) ((OwnL.rd (Ow.ownl q56_8 rfl mnil) (mle_refl _) (mle_nil _))) Try.underlying38
      refine VO.app 164 rfl rfl rfl tsl38 tz5 rfl rfl hM63 hA63 (hS63 _ 160 rfl) hR63.nice bdm bd (by decide) (fun v63 m63 hN63 => ?_)
      have ho63 : OwnL .byte m63 mnil v63 (d0.2.2.2.2.2.1.2.2.2) := OwnL.more hC63 hN63 (All2c.mono hR63 fun _ _ h => Rd.flat rfl h _)
      obtain ⟨A63, c63, rfl, l63, k63⟩ := ho63.slice
      simp only [maxLen] at k63
      refine VO.as ?_
      refine VO.clsP 165 [162, 157, 158, 159, 160, 161] rfl (fun hg65 => (show Ow (.ptr TdiskDisk) _ _ (_, d0) from (mkP_diskDisk d0.1 d0.2.1 d0.2.2.1 d0.2.2.2.1 d0.2.2.2.2.1 d0.2.2.2.2.2.1.1 d0.2.2.2.2.2.1.2.1 d0.2.2.2.2.2.1.2.2.1 d0.2.2.2.2.2.1.2.2.2 d0.2.2.2.2.2.2 hg65 bdk bdk (OwnL.ow (Ow.ownl q56_5 rfl mnil) rfl) (OwnL.ow (Ow.ownl q56_6 rfl mnil) rfl) (OwnL.ow (Ow.ownl q56_7 rfl mnil) rfl) (OwnL.ow (Ow.ownl q56_8 rfl mnil) rfl) q56_9))) (fun mc65 ho65 => ?_)
      refine VO.k4 0 1 4 5 ?_
      exact outN (hJ1 ⟨d0.2.2.2.2.2.1.2.2.2, A63, c63, m63, mc65⟩ _ _ ⟨by first | exact (getF0 ‹d1 = (0 : Int)›).symm | exact (getF1 ‹d1 = (1 : Int)›).symm | exact (getF2 ‹d1 = (2 : Int)›).symm | exact (getF3 ‹d1 = (3 : Int)›).symm, ho63, ho65⟩ ⟨⟨rfl, rfl, rfl, rfl, trivial⟩, fun _ h => Inv.sub (Inv.num (Inv.num h 164 110 rfl) 165 111 rfl) [111, 110, 0]⟩)
theorem fin0_dSettle_ok {P : Prop} (h : P := by first | (have h_ := play_room hb (get_take ‹(d0.2.2.2.2.2.2.take d1.toNat)[k]? = some _›); rw [getF0 ‹_ = (0 : Int)›] at h_; simp only [sizeQ] at h_; omega) | (have h_ := play_room hb (get_take ‹(d0.2.2.2.2.2.2.take d1.toNat)[k]? = some _›); rw [getF1 ‹_ = (1 : Int)›] at h_; simp only [sizeQ] at h_; omega) | (have h_ := play_room hb (get_take ‹(d0.2.2.2.2.2.2.take d1.toNat)[k]? = some _›); rw [getF2 ‹_ = (2 : Int)›] at h_; simp only [sizeQ] at h_; omega) | (have h_ := play_room hb (get_take ‹(d0.2.2.2.2.2.2.take d1.toNat)[k]? = some _›); rw [getF3 ‹_ = (3 : Int)›] at h_; simp only [sizeQ] at h_; omega)) : P := h
theorem fin1_dSettle_ok {P : Prop} (h : P := by first | (have h_ := (play_cut hg hb (get_take ‹(d0.2.2.2.2.2.2.take d1.toNat)[k]? = some _›)).2; rw [getF0 ‹_ = (0 : Int)›] at h_; exact h_) | (have h_ := (play_cut hg hb (get_take ‹(d0.2.2.2.2.2.2.take d1.toNat)[k]? = some _›)).2; rw [getF1 ‹_ = (1 : Int)›] at h_; exact h_) | (have h_ := (play_cut hg hb (get_take ‹(d0.2.2.2.2.2.2.take d1.toNat)[k]? = some _›)).2; rw [getF2 ‹_ = (2 : Int)›] at h_; exact h_) | (have h_ := (play_cut hg hb (get_take ‹(d0.2.2.2.2.2.2.take d1.toNat)[k]? = some _›)).2; rw [getF3 ‹_ = (3 : Int)›] at h_; exact h_)) : P := h
theorem fin2_dSettle_ok {P : Prop} (h : P := by first | omega | (simp only [List.length_append, List.length_nil, List.length_cons, List.length_take, List.length_drop] at *; omega) | (have h_ := (play_cut hg hb (get_take ‹(d0.2.2.2.2.2.2.take d1.toNat)[k]? = some _›)).1; simp only [inF] at h_; omega)) : P := h
theorem dSettle_ok (W : World) {m0 : Mem} (hm : mle (m0) (wm W)) {g0 : Nat} {d0 : DdiskDisk} (h0 : Ow (.ptr TdiskDisk) m0 [.pointer (some ⟨g0, 0, none⟩)] (g0, d0)) (d1 : Int) (h1 : inK .i64 d1) (e0 : okD d0) (e1 : wD d0 ≤ 2*1000000000000) (e2 : 0 ≤ d1 ∧ d1 ≤ d0.2.2.2.2.2.2.length) : CallR Try.prog 70 [.pointer (some ⟨g0, 0, none⟩), .int .i64 d1] W (m0) (fun v m' => v = .tuple #[] ∧ Ow (.ptr TdiskDisk) m' [.pointer (some ⟨g0, 0, none⟩)] (g0, settleD d0 d1.toNat)) := by
  obtain ⟨hg, hfu, hst⟩ := e0; simp only [wD, sizeQ] at e1
  have h1' := h1; simp only [inK] at h1'
  refine CallR.ofB (n := 42) hm Try.func70 rfl rfl rfl ?_
  refine VC.seq ?_
  refine VC.rs ?_
  refine VO.mv ?_
  refine VO.y rfl (.nilp rfl) ?_
  refine VO.y rfl (.fa rfl tst62 rfl) ?_
  obtain ⟨q1_E, q1_A5, q1_c5, q1_A6, q1_c6, q1_A7, q1_c7, q1_A8, q1_c8, q1_A9, q1_c9, q1_n5, q1_n6, q1_n7, q1_n8, q1_n9, _, q1_S, q1_3, q1_4, q1_5, q1_6, q1_7, q1_8, q1_9⟩ := openP_diskDisk (x0 := d0.1) (x1 := d0.2.1) (x2 := d0.2.2.1) (x3 := d0.2.2.2.1) (x4 := d0.2.2.2.2.1) (x5 := d0.2.2.2.2.2.1.1) (x6 := d0.2.2.2.2.2.1.2.1) (x7 := d0.2.2.2.2.2.1.2.2.1) (x8 := d0.2.2.2.2.2.1.2.2.2) (x9 := d0.2.2.2.2.2.2) h0
  simp only [inK] at q1_3
  simp only [inK] at q1_4
  have q1_r5 := q1_5.rm
  have q1_r6 := q1_6.rm
  have q1_r7 := q1_7.rm
  have q1_r8 := q1_8.rm
  have q1_r9 := q1_9.rm
  refine VO.inv _ (fun _ h => h.parts (i := 1) rfl q1_S [107, 102, 103, 104, 105, 106]) ?_
  refine VO.y rfl (.ld1 107 rfl tk60 rfl (cellsAt_one rfl rfl)) ?_
  refine VO.mv ?_
  have hs8 := (Ow.rd q1_9 (mle_refl _)).pre (j := ((d1).toNat)) (by exact fin2_dSettle_ok)
  refine VO.y rfl (.slHI ((d1).toNat) rfl rfl tsl60 (by exact fin2_dSettle_ok) (by exact fin2_dSettle_ok)) ?_
  refine VO.y rfl (.lenS rfl tsl60) ?_
  refine VO.mv ?_
  refine VO.k5 0 1 11 12 13 ?_
  refine VC.block ?_
  refine VC.loop (G := Nat × (List UInt8) × (Option Addr) × Nat × Mem × (List UInt8) × (Option Addr) × Nat × Mem × (List UInt8) × (Option Addr) × Nat × Mem × (List UInt8) × (Option Addr) × Nat × Mem) (fun g => [(13, Value.int .i64 ((((g.1) : Nat) : Int))), (0, Value.pointer (some ⟨g0, 0, none⟩)), (1, Value.int .i64 (d1)), (11, Value.slice q1_A9 ((d1).toNat) (q1_c9)), (12, Value.int .i64 ((((d1).toNat : Nat) : Int)))]) (fun g => [(107, mone g0 (.cells [Value.bool d0.1, Value.bool d0.2.1, Value.bool d0.2.2.1, Value.int .i64 (d0.2.2.2.1), Value.int .i64 (d0.2.2.2.2.1), Value.slice (g.2.2.1) ((g.2.1).length) ((g.2.2.2.1)), Value.slice (g.2.2.2.2.2.2.1) ((g.2.2.2.2.2.1).length) ((g.2.2.2.2.2.2.2.1)), Value.slice (g.2.2.2.2.2.2.2.2.2.2.1) ((g.2.2.2.2.2.2.2.2.2.1).length) ((g.2.2.2.2.2.2.2.2.2.2.2.1)), Value.slice (g.2.2.2.2.2.2.2.2.2.2.2.2.2.2.1) ((g.2.2.2.2.2.2.2.2.2.2.2.2.2.1).length) ((g.2.2.2.2.2.2.2.2.2.2.2.2.2.2.2.1)), Value.slice q1_A9 (d0.2.2.2.2.2.2.length) (q1_c9)].toArray q1_E (0, 0))), (102, (g.2.2.2.2.1)), (103, (g.2.2.2.2.2.2.2.2.1)), (104, (g.2.2.2.2.2.2.2.2.2.2.2.2.1)), (105, (g.2.2.2.2.2.2.2.2.2.2.2.2.2.2.2.2)), (106, q1_n9), (0, mout (wm W) (m0))]) (fun g => ((g.1) ≤ d1.toNat) ∧ (((g.2.1), (g.2.2.2.2.2.1), (g.2.2.2.2.2.2.2.2.2.1), (g.2.2.2.2.2.2.2.2.2.2.2.2.2.1)) = play d0.2.2.2.2.2.1 (d0.2.2.2.2.2.2.take (g.1))) ∧ (OwnL .byte (g.2.2.2.2.1) mnil (.slice (g.2.2.1) (g.2.1).length (g.2.2.2.1)) (g.2.1)) ∧ (OwnL .byte (g.2.2.2.2.2.2.2.2.1) mnil (.slice (g.2.2.2.2.2.2.1) (g.2.2.2.2.2.1).length (g.2.2.2.2.2.2.2.1)) (g.2.2.2.2.2.1)) ∧ (OwnL .byte (g.2.2.2.2.2.2.2.2.2.2.2.2.1) mnil (.slice (g.2.2.2.2.2.2.2.2.2.2.1) (g.2.2.2.2.2.2.2.2.2.1).length (g.2.2.2.2.2.2.2.2.2.2.2.1)) (g.2.2.2.2.2.2.2.2.2.1)) ∧ (OwnL .byte (g.2.2.2.2.2.2.2.2.2.2.2.2.2.2.2.2) mnil (.slice (g.2.2.2.2.2.2.2.2.2.2.2.2.2.2.1) (g.2.2.2.2.2.2.2.2.2.2.2.2.2.1).length (g.2.2.2.2.2.2.2.2.2.2.2.2.2.2.2.1)) (g.2.2.2.2.2.2.2.2.2.2.2.2.2.1))) (fun g => d1.toNat - (g.1)) (0, d0.2.2.2.2.2.1.1, q1_A5, q1_c5, q1_n5, d0.2.2.2.2.2.1.2.1, q1_A6, q1_c6, q1_n6, d0.2.2.2.2.2.1.2.2.1, q1_A7, q1_c7, q1_n7, d0.2.2.2.2.2.1.2.2.2, q1_A8, q1_c8, q1_n8) (⟨by omega, by rfl, (Ow.ownl q1_5 rfl mnil), (Ow.ownl q1_6 rfl mnil), (Ow.ownl q1_7 rfl mnil), (Ow.ownl q1_8 rfl mnil)⟩) ⟨⟨rfl, rfl, rfl, rfl, rfl, trivial⟩, fun _ h => h.sub [107, 102, 103, 104, 105, 106, 0]⟩ ?_
  rintro ⟨k, b0, b0_A, b0_c, b0_m, b1, b1_A, b1_c, b1_m, b2, b2_A, b2_c, b2_m, b3, b3_A, b3_c, b3_m⟩ ⟨hk, hb, h_b0, h_b1, h_b2, h_b3⟩
  replace hk : k ≤ d1.toNat := hk
  replace hb : (b0, b1, b2, b3) = play d0.2.2.2.2.2.1 (d0.2.2.2.2.2.2.take k) := hb
  replace h_b0 : OwnL .byte b0_m mnil (.slice b0_A b0.length b0_c) b0 := h_b0
  replace h_b1 : OwnL .byte b1_m mnil (.slice b1_A b1.length b1_c) b1 := h_b1
  replace h_b2 : OwnL .byte b2_m mnil (.slice b2_A b2.length b2_c) b2 := h_b2
  replace h_b3 : OwnL .byte b3_m mnil (.slice b3_A b3.length b3_c) b3 := h_b3
  show VC _ _ _ _ _ [(13, Value.int .i64 (((k : Nat) : Int))), (0, Value.pointer (some ⟨g0, 0, none⟩)), (1, Value.int .i64 (d1)), (11, Value.slice q1_A9 ((d1).toNat) (q1_c9)), (12, Value.int .i64 ((((d1).toNat : Nat) : Int)))] [(107, mone g0 (.cells [Value.bool d0.1, Value.bool d0.2.1, Value.bool d0.2.2.1, Value.int .i64 (d0.2.2.2.1), Value.int .i64 (d0.2.2.2.2.1), Value.slice b0_A (b0.length) (b0_c), Value.slice b1_A (b1.length) (b1_c), Value.slice b2_A (b2.length) (b2_c), Value.slice b3_A (b3.length) (b3_c), Value.slice q1_A9 (d0.2.2.2.2.2.2.length) (q1_c9)].toArray q1_E (0, 0))), (102, b0_m), (103, b1_m), (104, b2_m), (105, b3_m), (106, q1_n9), (0, mout (wm W) (m0))]
  have l_b0 : b0.length ≤ b0_c := by obtain ⟨_, _, he, hl, _⟩ := h_b0.slice; simp only [Value.slice.injEq] at he; omega
  have k_b0 : b0_c ≤ 9223372036854775807 := by obtain ⟨_, _, he, _, hl⟩ := h_b0.slice; simp only [Value.slice.injEq, maxLen] at he hl; omega
  have l_b1 : b1.length ≤ b1_c := by obtain ⟨_, _, he, hl, _⟩ := h_b1.slice; simp only [Value.slice.injEq] at he; omega
  have k_b1 : b1_c ≤ 9223372036854775807 := by obtain ⟨_, _, he, _, hl⟩ := h_b1.slice; simp only [Value.slice.injEq, maxLen] at he hl; omega
  have l_b2 : b2.length ≤ b2_c := by obtain ⟨_, _, he, hl, _⟩ := h_b2.slice; simp only [Value.slice.injEq] at he; omega
  have k_b2 : b2_c ≤ 9223372036854775807 := by obtain ⟨_, _, he, _, hl⟩ := h_b2.slice; simp only [Value.slice.injEq, maxLen] at he hl; omega
  have l_b3 : b3.length ≤ b3_c := by obtain ⟨_, _, he, hl, _⟩ := h_b3.slice; simp only [Value.slice.injEq] at he; omega
  have k_b3 : b3_c ≤ 9223372036854775807 := by obtain ⟨_, _, he, _, hl⟩ := h_b3.slice; simp only [Value.slice.injEq, maxLen] at he hl; omega
  refine VC.rs ?_
  refine VO.y rfl (.lss rfl rfl) ?_
  refine VO.k6 0 1 11 12 13 14 ?_
  refine VC.seq ?_
  refine VC.cond rfl (fun hc9 => ?_) (fun hc9 => ?_)
  · -- T
    refine VC.skip ?_
    refine outN ?_
    refine VC.seq ?_
    refine VC.block ?_
    refine VC.rs ?_
    obtain ⟨x10, hx10⟩ : ∃ z_, ((d0.2.2.2.2.2.2).take ((d1).toNat))[k]? = some z_ := ⟨_, List.getElem?_eq_getElem (by exact fin2_dSettle_ok)⟩
    obtain ⟨gg10, oo10, ec10, ea10, hce10, hre10⟩ := (Ow.rd (q1_9.pre (j := ((d1).toNat)) (by exact fin2_dSettle_ok)) (mle_refl _)).elem hx10
    cases ea10
    obtain ⟨q10_A2, q10_c2, rfl, q10_0, q10_1, q10_2, q10_3⟩ := open_diskstep (x0 := x10.1) (x1 := x10.2.1) (x2 := x10.2.2.1) (x3 := x10.2.2.2) hre10
    simp only [inK] at q10_0
    simp only [inK] at q10_1
    have q10_r2 := Rd.room q10_2
    simp only [inK] at q10_3
    refine VO.y rfl (.ixI k rfl rfl tsl60 rfl (by exact fin2_dSettle_ok)) ?_
    refine VO.y rfl (.ldA 106 rfl tk107 rfl hce10) ?_
    refine VO.alloc 112 rfl tz107 (fun g11 => ?_)
    refine VO.store (k := 4) (c' := [Value.int .i64 (x10.1), Value.int .i64 (x10.2.1), Value.slice q10_A2 (x10.2.2.1.length) (q10_c2), Value.int .i64 (x10.2.2.2)]) 112 rfl rfl (.inl tk107) rfl rfl rfl rfl rfl ?_
    refine VO.kp [112, 107, 102, 103, 104, 105, 106, 0] [(112, mone g11 (.cells [Value.int .i64 (x10.1), Value.int .i64 (x10.2.1), Value.slice q10_A2 (x10.2.2.1.length) (q10_c2), Value.int .i64 (x10.2.2.2)].toArray 107 (0, 0))), (107, mone g0 (.cells [Value.bool d0.1, Value.bool d0.2.1, Value.bool d0.2.2.1, Value.int .i64 (d0.2.2.2.1), Value.int .i64 (d0.2.2.2.2.1), Value.slice b0_A (b0.length) (b0_c), Value.slice b1_A (b1.length) (b1_c), Value.slice b2_A (b2.length) (b2_c), Value.slice b3_A (b3.length) (b3_c), Value.slice (some ⟨gg10, oo10, none⟩) (d0.2.2.2.2.2.2.length) (q1_c9)].toArray q1_E (0, 0))), (102, b0_m), (103, b1_m), (104, b2_m), (105, b3_m), (106, q1_n9), (0, mout (wm W) (m0))] ?_
    refine VO.k7 0 1 5 11 12 13 14 ?_
    refine VC.regD _ 14 [(0, true), (1, true), (2, true), (3, true), (4, true), (5, true), (6, true), (7, true), (8, true), (9, true), (10, true), (12, true), (13, true), (11, false)] follows (by kernel_rfl) (fun _ h => h.sub [112, 107, 106, 0]) ?_
    refine VD.y rfl rfl (.inl rfl) (.mv rfl) ?_
    refine VD.y rfl rfl (.inl rfl) (.fa rfl tst107 rfl) ?_
    refine VD.y rfl rfl (.inl rfl) (.ld1 112 rfl tk3 rfl (cellsAt_one rfl rfl)) ?_
    refine VD.y rfl rfl (.inl rfl) (.mv rfl) ?_
    refine VD.y rfl rfl (.inl rfl) (.fa rfl tst107 rfl) ?_
    refine VD.y rfl rfl (.inl rfl) (.ld1 112 rfl tk3 rfl (cellsAt_one rfl rfl)) ?_
    refine VD.y rfl rfl (.inl rfl) (.nilp rfl) ?_
    refine VD.y rfl rfl (.inl rfl) (.fa rfl tst62 rfl) ?_
    rcases (show x10.2.1 = (0 : Int) ∨ x10.2.1 = (1 : Int) ∨ x10.2.1 = (2 : Int) ∨ x10.2.1 = (3 : Int) from by exact fin2_dSettle_ok) with hi13 | hi13 | hi13 | hi13
    · -- T0
      refine VD.y rfl rfl (.inl rfl) (.ixa (i := 0) (o := 5) rfl rfl tar59 hi13 rfl rfl) ?_
      refine VD.y rfl rfl (.inl rfl) (.ld1 107 rfl tk38 rfl (cellsAt_one rfl rfl)) ?_
      refine VD.y rfl rfl (.inl rfl) (.ldA 112 rfl tk107 rfl (cellsAt_one rfl rfl)) ?_
      refine VD.y rfl rfl (.inl rfl) (.nilp rfl) ?_
      refine VD.y rfl rfl (.inl rfl) (.fa rfl tst62 rfl) ?_
      refine VD.call 102 rfl rfl (.inl rfl) fnOk71 rfl rfl (fun _ _ h => h.sub [112, 107, 106, 0]) (fun W hW => dDone_ok W (hW.at (i := 102) rfl) (OwnL.ow h_b0 rfl) (Rd.mono hre10 (hW.out (i := 102) (j := 106) rfl rfl)) (by exact fin1_dSettle_ok) (by exact fin0_dSettle_ok)) (fun v14 m14 hv14 => ?_)
      obtain ⟨s14_0, rfl, f14_0⟩ := hv14
      obtain ⟨A14_0, c14_0, eq14_0, l14_0, k14_0⟩ := f14_0.slice
      subst eq14_0
      simp only [maxLen] at k14_0
      refine VD.nil rfl ?_ rfl
      refine VO.y rfl (.ixa (i := 0) (o := 5) rfl rfl tar59 hi13 rfl rfl) ?_
      refine VO.store (k := 1) 107 rfl rfl (.inr ⟨tk38, rfl⟩) rfl rfl rfl rfl rfl ?_
      refine VO.k7 0 1 5 11 12 13 14 ?_
      refine outBN ?_
      refine outN ?_
      refine VC.reg ?_
      refine VO.y rfl (.add (c := ((k + 1 : Nat) : Int)) rfl rfl (by omega) ⟨by exact fin2_dSettle_ok, by exact fin2_dSettle_ok⟩) ?_
      refine VO.mv ?_
      refine VO.k7 0 1 5 11 12 13 14 ?_
      exact outN ⟨⟨k + 1, doneB b0 x10, A14_0, c14_0, m14, b1, b1_A, b1_c, b1_m, b2, b2_A, b2_c, b2_m, b3, b3_A, b3_c, b3_m⟩, ⟨by omega, by first | (have h_ := play_next hb (get_take ‹(d0.2.2.2.2.2.2.take d1.toNat)[k]? = some _›); rw [stepQ, setQ0 ‹_ = (0 : Int)›, getF0 ‹_ = (0 : Int)›] at h_; exact h_) | (have h_ := play_next hb (get_take ‹(d0.2.2.2.2.2.2.take d1.toNat)[k]? = some _›); rw [stepQ, setQ1 ‹_ = (1 : Int)›, getF1 ‹_ = (1 : Int)›] at h_; exact h_) | (have h_ := play_next hb (get_take ‹(d0.2.2.2.2.2.2.take d1.toNat)[k]? = some _›); rw [stepQ, setQ2 ‹_ = (2 : Int)›, getF2 ‹_ = (2 : Int)›] at h_; exact h_) | (have h_ := play_next hb (get_take ‹(d0.2.2.2.2.2.2.take d1.toNat)[k]? = some _›); rw [stepQ, setQ3 ‹_ = (3 : Int)›, getF3 ‹_ = (3 : Int)›] at h_; exact h_), (Ow.ownl f14_0 rfl mnil), h_b1, h_b2, h_b3⟩, by exact fin2_dSettle_ok, ⟨⟨rfl, rfl, rfl, rfl, rfl, trivial⟩, fun _ h => Inv.sub h [107, 102, 103, 104, 105, 106, 0]⟩⟩
    · -- T1
      refine VD.y rfl rfl (.inl rfl) (.ixa (i := 1) (o := 6) rfl rfl tar59 hi13 rfl rfl) ?_
      refine VD.y rfl rfl (.inl rfl) (.ld1 107 rfl tk38 rfl (cellsAt_one rfl rfl)) ?_
      refine VD.y rfl rfl (.inl rfl) (.ldA 112 rfl tk107 rfl (cellsAt_one rfl rfl)) ?_
      refine VD.y rfl rfl (.inl rfl) (.nilp rfl) ?_
      refine VD.y rfl rfl (.inl rfl) (.fa rfl tst62 rfl) ?_
      refine VD.call 103 rfl rfl (.inl rfl) fnOk71 rfl rfl (fun _ _ h => h.sub [112, 107, 106, 0]) (fun W hW => dDone_ok W (hW.at (i := 103) rfl) (OwnL.ow h_b1 rfl) (Rd.mono hre10 (hW.out (i := 103) (j := 106) rfl rfl)) (by exact fin1_dSettle_ok) (by exact fin0_dSettle_ok)) (fun v15 m15 hv15 => ?_)
      obtain ⟨s15_0, rfl, f15_0⟩ := hv15
      obtain ⟨A15_0, c15_0, eq15_0, l15_0, k15_0⟩ := f15_0.slice
      subst eq15_0
      simp only [maxLen] at k15_0
      refine VD.nil rfl ?_ rfl
      refine VO.y rfl (.ixa (i := 1) (o := 6) rfl rfl tar59 hi13 rfl rfl) ?_
      refine VO.store (k := 1) 107 rfl rfl (.inr ⟨tk38, rfl⟩) rfl rfl rfl rfl rfl ?_
      refine VO.k7 0 1 5 11 12 13 14 ?_
      refine outBN ?_
      refine outN ?_
      refine VC.reg ?_
      refine VO.y rfl (.add (c := ((k + 1 : Nat) : Int)) rfl rfl (by omega) ⟨by exact fin2_dSettle_ok, by exact fin2_dSettle_ok⟩) ?_
      refine VO.mv ?_
      refine VO.k7 0 1 5 11 12 13 14 ?_
      exact outN ⟨⟨k + 1, b0, b0_A, b0_c, b0_m, doneB b1 x10, A15_0, c15_0, m15, b2, b2_A, b2_c, b2_m, b3, b3_A, b3_c, b3_m⟩, ⟨by omega, by first | (have h_ := play_next hb (get_take ‹(d0.2.2.2.2.2.2.take d1.toNat)[k]? = some _›); rw [stepQ, setQ0 ‹_ = (0 : Int)›, getF0 ‹_ = (0 : Int)›] at h_; exact h_) | (have h_ := play_next hb (get_take ‹(d0.2.2.2.2.2.2.take d1.toNat)[k]? = some _›); rw [stepQ, setQ1 ‹_ = (1 : Int)›, getF1 ‹_ = (1 : Int)›] at h_; exact h_) | (have h_ := play_next hb (get_take ‹(d0.2.2.2.2.2.2.take d1.toNat)[k]? = some _›); rw [stepQ, setQ2 ‹_ = (2 : Int)›, getF2 ‹_ = (2 : Int)›] at h_; exact h_) | (have h_ := play_next hb (get_take ‹(d0.2.2.2.2.2.2.take d1.toNat)[k]? = some _›); rw [stepQ, setQ3 ‹_ = (3 : Int)›, getF3 ‹_ = (3 : Int)›] at h_; exact h_), h_b0, (Ow.ownl f15_0 rfl mnil), h_b2, h_b3⟩, by exact fin2_dSettle_ok, ⟨⟨rfl, rfl, rfl, rfl, rfl, trivial⟩, fun _ h => Inv.sub h [107, 102, 103, 104, 105, 106, 0]⟩⟩
    · -- T2
      refine VD.y rfl rfl (.inl rfl) (.ixa (i := 2) (o := 7) rfl rfl tar59 hi13 rfl rfl) ?_
      refine VD.y rfl rfl (.inl rfl) (.ld1 107 rfl tk38 rfl (cellsAt_one rfl rfl)) ?_
      refine VD.y rfl rfl (.inl rfl) (.ldA 112 rfl tk107 rfl (cellsAt_one rfl rfl)) ?_
      refine VD.y rfl rfl (.inl rfl) (.nilp rfl) ?_
      refine VD.y rfl rfl (.inl rfl) (.fa rfl tst62 rfl) ?_
      refine VD.call 104 rfl rfl (.inl rfl) fnOk71 rfl rfl (fun _ _ h => h.sub [112, 107, 106, 0]) (fun W hW => dDone_ok W (hW.at (i := 104) rfl) (OwnL.ow h_b2 rfl) (Rd.mono hre10 (hW.out (i := 104) (j := 106) rfl rfl)) (by exact fin1_dSettle_ok) (by exact fin0_dSettle_ok)) (fun v16 m16 hv16 => ?_)
      obtain ⟨s16_0, rfl, f16_0⟩ := hv16
      obtain ⟨A16_0, c16_0, eq16_0, l16_0, k16_0⟩ := f16_0.slice
      subst eq16_0
      simp only [maxLen] at k16_0
      refine VD.nil rfl ?_ rfl
      refine VO.y rfl (.ixa (i := 2) (o := 7) rfl rfl tar59 hi13 rfl rfl) ?_
      refine VO.store (k := 1) 107 rfl rfl (.inr ⟨tk38, rfl⟩) rfl rfl rfl rfl rfl ?_
      refine VO.k7 0 1 5 11 12 13 14 ?_
      refine outBN ?_
      refine outN ?_
      refine VC.reg ?_
      refine VO.y rfl (.add (c := ((k + 1 : Nat) : Int)) rfl rfl (by omega) ⟨by exact fin2_dSettle_ok, by exact fin2_dSettle_ok⟩) ?_
      refine VO.mv ?_
      refine VO.k7 0 1 5 11 12 13 14 ?_
      exact outN ⟨⟨k + 1, b0, b0_A, b0_c, b0_m, b1, b1_A, b1_c, b1_m, doneB b2 x10, A16_0, c16_0, m16, b3, b3_A, b3_c, b3_m⟩, ⟨by omega, by first | (have h_ := play_next hb (get_take ‹(d0.2.2.2.2.2.2.take d1.toNat)[k]? = some _›); rw [stepQ, setQ0 ‹_ = (0 : Int)›, getF0 ‹_ = (0 : Int)›] at h_; exact h_) | (have h_ := play_next hb (get_take ‹(d0.2.2.2.2.2.2.take d1.toNat)[k]? = some _›); rw [stepQ, setQ1 ‹_ = (1 : Int)›, getF1 ‹_ = (1 : Int)›] at h_; exact h_) | (have h_ := play_next hb (get_take ‹(d0.2.2.2.2.2.2.take d1.toNat)[k]? = some _›); rw [stepQ, setQ2 ‹_ = (2 : Int)›, getF2 ‹_ = (2 : Int)›] at h_; exact h_) | (have h_ := play_next hb (get_take ‹(d0.2.2.2.2.2.2.take d1.toNat)[k]? = some _›); rw [stepQ, setQ3 ‹_ = (3 : Int)›, getF3 ‹_ = (3 : Int)›] at h_; exact h_), h_b0, h_b1, (Ow.ownl f16_0 rfl mnil), h_b3⟩, by exact fin2_dSettle_ok, ⟨⟨rfl, rfl, rfl, rfl, rfl, trivial⟩, fun _ h => Inv.sub h [107, 102, 103, 104, 105, 106, 0]⟩⟩
    · -- T3
      refine VD.y rfl rfl (.inl rfl) (.ixa (i := 3) (o := 8) rfl rfl tar59 hi13 rfl rfl) ?_
      refine VD.y rfl rfl (.inl rfl) (.ld1 107 rfl tk38 rfl (cellsAt_one rfl rfl)) ?_
      refine VD.y rfl rfl (.inl rfl) (.ldA 112 rfl tk107 rfl (cellsAt_one rfl rfl)) ?_
      refine VD.y rfl rfl (.inl rfl) (.nilp rfl) ?_
      refine VD.y rfl rfl (.inl rfl) (.fa rfl tst62 rfl) ?_
      refine VD.call 105 rfl rfl (.inl rfl) fnOk71 rfl rfl (fun _ _ h => h.sub [112, 107, 106, 0]) (fun W hW => dDone_ok W (hW.at (i := 105) rfl) (OwnL.ow h_b3 rfl) (Rd.mono hre10 (hW.out (i := 105) (j := 106) rfl rfl)) (by exact fin1_dSettle_ok) (by exact fin0_dSettle_ok)) (fun v17 m17 hv17 => ?_)
      obtain ⟨s17_0, rfl, f17_0⟩ := hv17
      obtain ⟨A17_0, c17_0, eq17_0, l17_0, k17_0⟩ := f17_0.slice
      subst eq17_0
      simp only [maxLen] at k17_0
      refine VD.nil rfl ?_ rfl
      refine VO.y rfl (.ixa (i := 3) (o := 8) rfl rfl tar59 hi13 rfl rfl) ?_
      refine VO.store (k := 1) 107 rfl rfl (.inr ⟨tk38, rfl⟩) rfl rfl rfl rfl rfl ?_
      refine VO.k7 0 1 5 11 12 13 14 ?_
      refine outBN ?_
      refine outN ?_
      refine VC.reg ?_
      refine VO.y rfl (.add (c := ((k + 1 : Nat) : Int)) rfl rfl (by omega) ⟨by exact fin2_dSettle_ok, by exact fin2_dSettle_ok⟩) ?_
      refine VO.mv ?_
      refine VO.k7 0 1 5 11 12 13 14 ?_
      exact outN ⟨⟨k + 1, b0, b0_A, b0_c, b0_m, b1, b1_A, b1_c, b1_m, b2, b2_A, b2_c, b2_m, doneB b3 x10, A17_0, c17_0, m17⟩, ⟨by omega, by first | (have h_ := play_next hb (get_take ‹(d0.2.2.2.2.2.2.take d1.toNat)[k]? = some _›); rw [stepQ, setQ0 ‹_ = (0 : Int)›, getF0 ‹_ = (0 : Int)›] at h_; exact h_) | (have h_ := play_next hb (get_take ‹(d0.2.2.2.2.2.2.take d1.toNat)[k]? = some _›); rw [stepQ, setQ1 ‹_ = (1 : Int)›, getF1 ‹_ = (1 : Int)›] at h_; exact h_) | (have h_ := play_next hb (get_take ‹(d0.2.2.2.2.2.2.take d1.toNat)[k]? = some _›); rw [stepQ, setQ2 ‹_ = (2 : Int)›, getF2 ‹_ = (2 : Int)›] at h_; exact h_) | (have h_ := play_next hb (get_take ‹(d0.2.2.2.2.2.2.take d1.toNat)[k]? = some _›); rw [stepQ, setQ3 ‹_ = (3 : Int)›, getF3 ‹_ = (3 : Int)›] at h_; exact h_), h_b0, h_b1, h_b2, (Ow.ownl f17_0 rfl mnil)⟩, by exact fin2_dSettle_ok, ⟨⟨rfl, rfl, rfl, rfl, rfl, trivial⟩, fun _ h => Inv.sub h [107, 102, 103, 104, 105, 106, 0]⟩⟩
  · -- F
    refine VC.exit ?_
    refine outE ?_
    refine outE ?_
    refine outBB ?_
    refine outN ?_
    refine VC.reg ?_
    refine VO.mv ?_
    refine VO.mv ?_
    refine VO.y rfl (.nilp rfl) ?_
    refine VO.y rfl (.fa rfl tst62 rfl) ?_
    refine VO.y rfl (.ld1 107 rfl tk60 rfl (cellsAt_one rfl rfl)) ?_
    refine VO.mv ?_
    obtain ⟨A18, hA18, ho18⟩ := q1_9.drop' 4 ((d1).toNat) rfl (by exact fin2_dSettle_ok)
    refine VO.y rfl (.slLI ((d1).toNat) A18 rfl rfl tsl60 (by exact fin2_dSettle_ok) hA18 (by exact fin2_dSettle_ok)) ?_
    refine VO.y rfl (.nilp rfl) ?_
    refine VO.y rfl (.fa rfl tst62 rfl) ?_
    refine VO.store (k := 1) 107 rfl rfl (.inr ⟨tk60, rfl⟩) rfl rfl rfl rfl rfl ?_
    refine VO.kp [107, 102, 103, 104, 105, 106, 0] [(107, mone g0 (.cells [Value.bool d0.1, Value.bool d0.2.1, Value.bool d0.2.2.1, Value.int .i64 (d0.2.2.2.1), Value.int .i64 (d0.2.2.2.2.1), Value.slice b0_A (b0.length) (b0_c), Value.slice b1_A (b1.length) (b1_c), Value.slice b2_A (b2.length) (b2_c), Value.slice b3_A (b3.length) (b3_c), Value.slice A18 (d0.2.2.2.2.2.2.length - ((d1).toNat)) (q1_c9 - ((d1).toNat))].toArray q1_E (0, 0))), (102, b0_m), (103, b1_m), (104, b2_m), (105, b3_m), (106, q1_n9), (0, mout (wm W) (m0))] ?_
    refine VO.k6 0 1 11 12 13 14 ?_
    refine ⟨_, _, res_run (rs := []) rfl .nil, fun W_ hI => out_of (l := [mone g0 (.cells [Value.bool d0.1, Value.bool d0.2.1, Value.bool d0.2.2.1, Value.int .i64 (d0.2.2.2.1), Value.int .i64 (d0.2.2.2.2.1), Value.slice b0_A (b0.length) (b0_c), Value.slice b1_A (b1.length) (b1_c), Value.slice b2_A (b2.length) (b2_c), Value.slice b3_A (b3.length) (b3_c), Value.slice A18 (d0.2.2.2.2.2.2.length - ((d1).toNat)) (q1_c9 - ((d1).toNat))].toArray q1_E (0, 0)), b0_m, b1_m, b2_m, b3_m, q1_n9]) hI [107, 102, 103, 104, 105, 106] rfl rfl (mle_refl _) (fun hS_ => ?_)⟩
    dsimp only [packV]
    have hm0_ : (settleD d0 d1.toNat : DdiskDisk) = (d0.1, d0.2.1, d0.2.2.1, d0.2.2.2.1, d0.2.2.2.2.1, (b0, b1, b2, b3), d0.2.2.2.2.2.2.drop ((d1).toNat)) := by first | rfl | ((have hk2 : k = d1.toNat := (by omega); subst hk2; unfold settleD; rw [← hb]))
    refine ⟨?_, ?_⟩
    rotate_left
    · rw [hm0_]; exact (mkP_diskDisk d0.1 d0.2.1 d0.2.2.1 d0.2.2.2.1 d0.2.2.2.2.1 b0 b1 b2 b3 (d0.2.2.2.2.2.2.drop ((d1).toNat)) hS_ (by simp only [inK]; (exact fin2_dSettle_ok)) (by simp only [inK]; (exact fin2_dSettle_ok)) (OwnL.ow h_b0 rfl) (OwnL.ow h_b1 rfl) (OwnL.ow h_b2 rfl) (OwnL.ow h_b3 rfl) ho18)
    all_goals (first | rfl | (simp [*]; done))
theorem fnOk65 : fnOk Try.prog 65 = true := by kernel_rfl
theorem fnOk70 : fnOk Try.prog 70 = true := by kernel_rfl
theorem fnOk73 : fnOk Try.prog 73 = true := by kernel_rfl
theorem fnOk74 : fnOk Try.prog 74 = true := by kernel_rfl
theorem fnOk76 : fnOk Try.prog 76 = true := by kernel_rfl
theorem fin0_dWrite_ok {P : Prop} (h : P := by first | (rw [write_bad1 (by assumption)] <;> rfl) | (rw [write_bad2 (by assumption) (by assumption)] <;> rfl) | (rw [write_go (by assumption) (by assumption), write_off hp hn (by omega) (by assumption)] <;> rfl) | (rw [write_go (by assumption) (by assumption), write_end hp (by omega)] <;> rfl)) : P := h
theorem dWrite_ok (W : World) {m0 : Mem} (hm : mle (m0) (wm W)) {g0 : Nat} {d0 : DdiskDisk} (h0 : Ow (.ptr TdiskDisk) m0 [.pointer (some ⟨g0, 0, none⟩)] (g0, d0)) (d1 : Int) (h1 : inK .i64 d1) {v2 : Value} {d2 : List UInt8} (h2 : Rd (.sl .byte) (mout (wm W) (m0)) [v2] d2) (e0 : okD d0) (e1 : wD d0 + 3 * d2.length ≤ 1000000000000) : CallR Try.prog 44 [.pointer (some ⟨g0, 0, none⟩), .int .i64 d1, v2] W (m0) (fun v m' => v = .int .i64 ((dWrite d0 d1 d2).2) ∧ Ow (.ptr TdiskDisk) m' [.pointer (some ⟨g0, 0, none⟩)] (g0, (dWrite d0 d1 d2).1)) := by
  have hok0 := e0; obtain ⟨hg, hfu, hst⟩ := e0
  have h1' := h1; simp only [inK] at h1'
  obtain ⟨A2, c2, rfl, l2, k2⟩ := h2.slice
  simp only [maxLen] at k2
  refine CallR.ofB (n := 44) hm Try.func44 rfl rfl rfl ?_
  refine VC.rs ?_
  refine VO.as ?_
  refine VO.k4 0 1 2 6 ?_
  refine VC.seq ?_
  refine VC.rs ?_
  refine VO.mv ?_
  refine VO.call 1 rfl fnOk65 rfl rfl (fun W hW => dWrong_ok W (hW.at (i := 1) rfl) h0) (fun v1 m1 hv1 => ?_)
  obtain ⟨rfl, w1_0⟩ := hv1
  refine VO.as ?_
  refine VO.k5 0 1 2 6 7 ?_
  refine VC.rs ?_
  refine VO.mv ?_
  refine VO.y rfl (.neq rfl rfl) ?_
  refine VO.kp [1, 0] [(1, m1), (0, mout (wm W) (m0))] ?_
  refine VO.k6 0 1 2 6 7 12 ?_
  refine VC.cond rfl (fun hc2 => ?_) (fun hc2 => ?_)
  · -- T
    refine VC.rs ?_
    refine VO.mv ?_
    refine VO.as ?_
    refine VO.k6 0 1 2 6 7 12 ?_
    refine VC.ret ?_
    refine outR ?_
    refine ⟨_, _, res_run (rs := [.tmp 6]) rfl (.tmp rfl .nil), fun W_ hI => out_of (l := [m1]) hI [1] rfl rfl (mle_refl _) (fun hS_ => ?_)⟩
    dsimp only [packV]
    have hm0_ : ((dWrite d0 d1 d2).1 : DdiskDisk) = d0 := by first | rfl | (exact fin0_dWrite_ok)
    refine ⟨?_, ?_⟩
    rotate_left
    · rw [hm0_]; exact (Ow.up w1_0 (hS_.1 _ (.head _)))
    all_goals (first | rfl | (exact fin0_dWrite_ok))
  · -- F
    refine VC.skip ?_
    refine outN ?_
    refine VC.seq ?_
    refine VC.rs ?_
    refine VO.mv ?_
    refine VO.callN 103 rfl fnOk73 rfl (fun W hW => dIs_ok W d1 bdk) (fun v3 m3 hv3 => ?_)
    subst hv3
    refine VO.y rfl (.notD rfl) ?_
    refine VO.k7 0 1 2 6 7 12 16 ?_
    refine VC.cond rfl (fun hc4 => ?_) (fun hc4 => ?_)
    · -- FT
      refine VC.rs ?_
      refine VO.as ?_
      refine VO.k7 0 1 2 6 7 12 16 ?_
      refine VC.ret ?_
      refine outR ?_
      refine ⟨_, _, res_run (rs := [.tmp 6]) rfl (.tmp rfl .nil), fun W_ hI => out_of (l := [m1]) hI [1] rfl rfl (mle_refl _) (fun hS_ => ?_)⟩
      dsimp only [packV]
      have hm0_ : ((dWrite d0 d1 d2).1 : DdiskDisk) = d0 := by first | rfl | (exact fin0_dWrite_ok)
      refine ⟨?_, ?_⟩
      rotate_left
      · rw [hm0_]; exact (Ow.up w1_0 (hS_.1 _ (.head _)))
      all_goals (first | rfl | (exact fin0_dWrite_ok))
    · -- FF
      refine VC.skip ?_
      refine outN ?_
      refine VC.seq ?_
      refine VC.block ?_
      refine VC.loop (G := DdiskDisk × Mem × (List UInt8) × (Option Addr) × Nat × Nat) (fun g => [(2, Value.slice (g.2.2.2.1) ((g.2.2.1).length) ((g.2.2.2.2.1))), (0, Value.pointer (some ⟨g0, 0, none⟩)), (1, Value.int .i64 (d1)), (7, Value.int .i64 (wrongD d0)), (12, Value.bool (decide (¬ (wrongD d0) = 0))), (16, Value.bool (decide (¬ (inF d1))))]) (fun g => [(1, (g.2.1)), (0, mout (wm W) (m0))]) (fun g => (writeGo d2.length d0 d1 d2 = writeGo (g.2.2.2.2.2) (g.1) d1 (g.2.2.1)) ∧ ((g.2.2.1).length ≤ (g.2.2.2.2.2)) ∧ (okD (g.1)) ∧ (wD (g.1) + 3 * (g.2.2.1).length ≤ 1000000000000) ∧ (Rd (.sl .byte) (mout (wm W) (m0)) [.slice (g.2.2.2.1) (g.2.2.1).length (g.2.2.2.2.1)] (g.2.2.1)) ∧ (Ow (.ptr TdiskDisk) (g.2.1) [.pointer (some ⟨g0, 0, none⟩)] (g0, (g.1)))) (fun g => (g.2.2.1).length) (d0, m1, d2, A2, c2, d2.length) (⟨by rfl, by (dsimp only; omega), by exact hok0, by (dsimp only; omega), h2, w1_0⟩) ⟨⟨rfl, rfl, rfl, rfl, rfl, rfl, trivial⟩, fun _ h => h.sub [1, 0]⟩ ?_
      rintro ⟨d, d_m, b, b_A, b_c, n⟩ ⟨hp, hn, hok, hw, h_b, h_d⟩
      replace hp : writeGo d2.length d0 d1 d2 = writeGo n d d1 b := hp
      replace hn : b.length ≤ n := hn
      replace hok : okD d := hok
      replace hw : wD d + 3 * b.length ≤ 1000000000000 := hw
      replace h_b : Rd (.sl .byte) (mout (wm W) (m0)) [.slice b_A b.length b_c] b := h_b
      replace h_d : Ow (.ptr TdiskDisk) d_m [.pointer (some ⟨g0, 0, none⟩)] (g0, d) := h_d
      show VC _ _ _ _ _ [(2, Value.slice b_A (b.length) (b_c)), (0, Value.pointer (some ⟨g0, 0, none⟩)), (1, Value.int .i64 (d1)), (7, Value.int .i64 (wrongD d0)), (12, Value.bool (decide (¬ (wrongD d0) = 0))), (16, Value.bool (decide (¬ (inF d1))))] [(1, d_m), (0, mout (wm W) (m0))]
      have l_b : b.length ≤ b_c := by obtain ⟨_, _, he, hl, _⟩ := h_b.slice; simp only [Value.slice.injEq] at he; omega
      have k_b : b_c ≤ 9223372036854775807 := by obtain ⟨_, _, he, _, hl⟩ := h_b.slice; simp only [Value.slice.injEq, maxLen] at he hl; omega
      refine VC.seq ?_
      refine VC.rs ?_
      refine VO.mv ?_
      refine VO.y rfl (.lenS rfl tsl38) ?_
      refine VO.y rfl (.gtr rfl rfl) ?_
      refine VO.k7 0 1 2 7 12 16 19 ?_
      refine VC.cond rfl (fun hc5 => ?_) (fun hc5 => ?_)
      · -- FFT
        refine VC.skip ?_
        refine outN ?_
        refine VC.block ?_
        refine VC.seq ?_
        refine VC.rs ?_
        refine VO.mv ?_
        refine VO.call 1 rfl fnOk76 rfl rfl (fun W hW => dBurn_ok W (hW.at (i := 1) rfl) h_d (by assumption) bd) (fun v6 m6 hv6 => ?_)
        obtain ⟨rfl, w6_0⟩ := hv6
        have hfa7 := (burn_ok (show okD d by assumption))
        have hfa8 := (burn_w (show okD d by assumption))
        have hfa9 := (len_w (burnD d).1)
        refine VO.y rfl (.notD rfl) ?_
        refine VO.kp [1, 0] [(1, m6), (0, mout (wm W) (m0))] ?_
        refine VO.k8 0 1 2 7 12 16 19 22 ?_
        refine VC.cond rfl (fun hc10 => ?_) (fun hc10 => ?_)
        · -- FFTT
          refine VC.rs ?_
          refine VO.as ?_
          refine VO.k9 0 1 2 6 7 12 16 19 22 ?_
          refine VC.ret ?_
          refine outR ?_
          refine outBR ?_
          refine outR ?_
          refine outBR ?_
          refine outR ?_
          refine ⟨_, _, res_run (rs := [.tmp 6]) rfl (.tmp rfl .nil), fun W_ hI => out_of (l := [m6]) hI [1] rfl rfl (mle_refl _) (fun hS_ => ?_)⟩
          dsimp only [packV]
          have hm0_ : ((dWrite d0 d1 d2).1 : DdiskDisk) = (burnD d).1 := by first | rfl | (exact fin0_dWrite_ok)
          refine ⟨?_, ?_⟩
          rotate_left
          · rw [hm0_]; exact (Ow.up w6_0 (hS_.1 _ (.head _)))
          all_goals (first | rfl | (exact fin0_dWrite_ok))
        · -- FFTF
          refine VC.skip ?_
          refine outN ?_
          refine VC.rs ?_
          refine VO.mv ?_
          refine VO.y rfl (.lenS rfl tsl38) ?_
          refine VO.y rfl (.minM rfl rfl) ?_
          refine VO.as ?_
          refine VO.k9 0 1 2 7 8 12 16 19 22 ?_
          refine VC.seq ?_
          obtain ⟨q11_E, q11_A5, q11_c5, q11_A6, q11_c6, q11_A7, q11_c7, q11_A8, q11_c8, q11_A9, q11_c9, q11_n5, q11_n6, q11_n7, q11_n8, q11_n9, _, q11_S, q11_3, q11_4, q11_5, q11_6, q11_7, q11_8, q11_9⟩ := openP_diskDisk (x0 := ((burnD d).1).1) (x1 := ((burnD d).1).2.1) (x2 := ((burnD d).1).2.2.1) (x3 := ((burnD d).1).2.2.2.1) (x4 := ((burnD d).1).2.2.2.2.1) (x5 := (((burnD d).1).2.2.2.2.2.1).1) (x6 := (((burnD d).1).2.2.2.2.2.1).2.1) (x7 := (((burnD d).1).2.2.2.2.2.1).2.2.1) (x8 := (((burnD d).1).2.2.2.2.2.1).2.2.2) (x9 := ((burnD d).1).2.2.2.2.2.2) w6_0
          simp only [inK] at q11_3
          simp only [inK] at q11_4
          have q11_r5 := q11_5.rm
          have q11_r6 := q11_6.rm
          have q11_r7 := q11_7.rm
          have q11_r8 := q11_8.rm
          have q11_r9 := q11_9.rm
          refine VC.inv _ (fun _ h => h.parts (i := 1) rfl q11_S [117, 112, 113, 114, 115, 116]) ?_
          refine VC.regD _ 13 [(0, true), (1, true), (2, true), (3, true), (4, true), (5, true), (6, true), (7, true), (8, true), (9, false), (10, true), (11, false), (12, false)] follows (by kernel_rfl) (fun _ h => h.sub [117, 112, 113, 114, 115, 0]) ?_
          refine VD.y rfl rfl (.inl rfl) (.mv rfl) ?_
          refine VD.y rfl rfl (.inl rfl) (.mv rfl) ?_
          refine VD.y rfl rfl (.inl rfl) (.nilp rfl) ?_
          refine VD.y rfl rfl (.inl rfl) (.fa rfl tst62 rfl) ?_
          refine VD.y rfl rfl (.inl rfl) (.ld1 117 rfl tk60 rfl (cellsAt_one rfl rfl)) ?_
          refine VD.y rfl rfl (.inl rfl) (.mv rfl) ?_
          refine VD.y rfl rfl (.inl rfl) (.mv rfl) ?_
          refine VD.y rfl rfl (.inl rfl) (.mv rfl) ?_
          have hs18 := h_b.pre (j := ((min ((b.length : Nat) : Int) 64).toNat)) bd
          refine VD.y rfl rfl (.inl rfl) (.slHI ((min ((b.length : Nat) : Int) 64).toNat) rfl rfl tsl38 bd bd) ?_
          refine VD.inv _ (fun _ h => h.nilc 120) ?_
          obtain ⟨mo19, cs19, hM19, hA19, hC19⟩ := (OwnL.nil .byte mnil mnil)
          obtain ⟨all19, hS19, hR19⟩ := Rd.srcI (P := Try.prog) (hs18) Try.underlying38
          refine VD.app 120 rfl rfl rfl rfl tsl38 tz5 rfl rfl hM19 hA19 (hS19 _ 0 rfl) hR19.nice bdm bd (by decide) (fun _ _ h => h.sub [117, 112, 113, 114, 115, 0]) (fun v19 m19 hN19 => ?_)
          have ho19 : OwnL .byte m19 mnil v19 ((b).take ((min ((b.length : Nat) : Int) 64).toNat)) := OwnL.more hC19 hN19 (All2c.mono hR19 fun _ _ h => Rd.flat rfl h _)
          obtain ⟨A19, c19, rfl, l19, k19⟩ := ho19.slice
          simp only [maxLen] at k19
          refine VD.y rfl rfl (.inl rfl) (.bst (cs := [Value.int .i64 (0), Value.int .i64 (d1), Value.slice A19 (((b).take ((min ((b.length : Nat) : Int) 64).toNat)).length) (c19), Value.int .i64 (0)]) rfl tst107 tz107 rfl) ?_
          refine VD.bsl (cs := [Value.int .i64 (0), Value.int .i64 (d1), Value.slice A19 (((b).take ((min ((b.length : Nat) : Int) 64).toNat)).length) (c19), Value.int .i64 (0)]) 122 rfl rfl rfl tsl60 tz107 rfl rfl (fun _ h => h.sub [117, 112, 113, 114, 115, 0]) (fun g21 => ?_)
          refine VD.appO (e := Tdiskstep) 116 120 122 rfl rfl rfl rfl tsl60 tz107 rfl rfl rfl rfl q11_9 (mkO_diskstep 0 d1 ((b).take ((min ((b.length : Nat) : Int) 64).toNat)) 0 (Seps.one (mle_refl _)) bdk bdk (OwnL.ow ho19 rfl) bdk) Try.underlying60 (cellsAt_one rfl rfl) bdm bd (by decide) (fun _ _ h => h.sub [117, 112, 113, 114, 115, 0]) (fun v23 m23 ho23 => ?_)
          obtain ⟨A23, c23, rfl, l23, k23⟩ := ho23.slice
          simp only [maxLen] at k23
          refine VD.nil rfl ?_ rfl
          refine VO.y rfl (.nilp rfl) ?_
          refine VO.y rfl (.fa rfl tst62 rfl) ?_
          refine VO.store (k := 1) 117 rfl rfl (.inr ⟨tk60, rfl⟩) rfl rfl rfl rfl rfl ?_
          refine VO.clsP 124 [117, 112, 113, 114, 115, 116] rfl (fun hg24 => (mkP_diskDisk (((burnD d).1).1) (((burnD d).1).2.1) (((burnD d).1).2.2.1) (((burnD d).1).2.2.2.1) (((burnD d).1).2.2.2.2.1) ((((burnD d).1).2.2.2.2.2.1).1) ((((burnD d).1).2.2.2.2.2.1).2.1) ((((burnD d).1).2.2.2.2.2.1).2.2.1) ((((burnD d).1).2.2.2.2.2.1).2.2.2) ((((burnD d).1).2.2.2.2.2.2) ++ [((0, d1, (b).take ((min ((b.length : Nat) : Int) 64).toNat), 0) : Ddiskstep)]) hg24 bdk bdk (OwnL.ow (Ow.ownl q11_5 rfl mnil) rfl) (OwnL.ow (Ow.ownl q11_6 rfl mnil) rfl) (OwnL.ow (Ow.ownl q11_7 rfl mnil) rfl) (OwnL.ow (Ow.ownl q11_8 rfl mnil) rfl) ho23)) (fun mc24 ho24 => ?_)
          refine VO.k9 0 1 2 7 8 12 16 19 22 ?_
          refine outN ?_
          refine VC.reg ?_
          refine VO.mv ?_
          refine VO.mv ?_
          obtain ⟨A25, hA25, hs25⟩ := h_b.drop 1 ((min ((b.length : Nat) : Int) 64).toNat) rfl bd
          refine VO.y rfl (.slLI ((min ((b.length : Nat) : Int) 64).toNat) A25 rfl rfl tsl38 bd hA25 bd) ?_
          refine VO.as ?_
          refine VO.kp [124, 0] [(124, mc24), (0, mout (wm W) (m0))] ?_
          refine VO.k9 0 1 2 7 8 12 16 19 22 ?_
          refine outBN ?_
          have hrl26 : b.length - ((min ((b.length : Nat) : Int) 64).toNat) = (b.drop ((min ((b.length : Nat) : Int) 64).toNat)).length := by simp only [List.length_drop, List.length_take]; try omega
          rw [hrl26]
          exact outN ⟨⟨(((burnD d).1).1, ((burnD d).1).2.1, ((burnD d).1).2.2.1, ((burnD d).1).2.2.2.1, ((burnD d).1).2.2.2.2.1, (((burnD d).1).2.2.2.2.2.1), (((burnD d).1).2.2.2.2.2.2) ++ [((0, d1, (b).take ((min ((b.length : Nat) : Int) 64).toNat), 0) : Ddiskstep)]), mc24, b.drop ((min ((b.length : Nat) : Int) 64).toNat), A25, b_c - ((min ((b.length : Nat) : Int) 64).toNat), n - 1⟩, ⟨by exact write_step hp hn (by omega) (Decidable.not_not.1 ‹¬ ¬ (burnD d).2 = true›) (by omega), by (simp only [List.length_drop]; omega), by exact step_ok hok (Decidable.not_not.1 ‹¬ ¬ inF d1›) (by omega) (by omega), by exact Nat.le_trans (step_w (f := d1) (b := b) (m := (min ((b.length : Nat) : Int) 64).toNat) hok (by omega) (by omega)) hw, (Rd.relen hs25 rfl), ho24⟩, by (simp only [List.length_drop]; omega), ⟨⟨rfl, rfl, rfl, rfl, rfl, rfl, trivial⟩, fun _ h => Inv.sub (Inv.num h 124 1 rfl) [1, 0]⟩⟩
      · -- FFF
        refine VC.exit ?_
        refine outE ?_
        refine outE ?_
        refine outBB ?_
        refine outN ?_
        refine VC.rs ?_
        refine VO.as ?_
        refine VO.kp [1, 0] [(1, d_m), (0, mout (wm W) (m0))] ?_
        refine VO.k8 0 1 2 6 7 12 16 19 ?_
        refine VC.ret ?_
        refine ⟨_, _, res_run (rs := [.tmp 6]) rfl (.tmp rfl .nil), fun W_ hI => out_of (l := [d_m]) hI [1] rfl rfl (mle_refl _) (fun hS_ => ?_)⟩
        dsimp only [packV]
        have hm0_ : ((dWrite d0 d1 d2).1 : DdiskDisk) = d := by first | rfl | (exact fin0_dWrite_ok)
        refine ⟨?_, ?_⟩
        rotate_left
        · rw [hm0_]; exact (Ow.up h_d (hS_.1 _ (.head _)))
        all_goals (first | rfl | (exact fin0_dWrite_ok))
theorem fin0_dCut_ok {P : Prop} (h : P := by first | (rw [cut_bad1 (by assumption)] <;> rfl) | (rw [cut_bad2 (by assumption) (.inl (by assumption))] <;> rfl) | (rw [cut_bad2 (by assumption) (.inr (.inl (by assumption)))] <;> rfl) | (rw [cut_bad2 (by assumption) (.inr (.inr (by assumption)))] <;> rfl) | (rw [cut_go (by assumption) (by assumption) (by assumption) (by assumption) (by assumption)] <;> rfl) | (rw [cut_off (by assumption) (by assumption) (by assumption) (by assumption) (by assumption)] <;> rfl)) : P := h
theorem dCut_ok (W : World) {m0 : Mem} (hm : mle (m0) (wm W)) {g0 : Nat} {d0 : DdiskDisk} (h0 : Ow (.ptr TdiskDisk) m0 [.pointer (some ⟨g0, 0, none⟩)] (g0, d0)) (d1 : Int) (h1 : inK .i64 d1) (d2 : Int) (h2 : inK .i64 d2) (e0 : okD d0) (e1 : wD d0 ≤ 1000000000000) : CallR Try.prog 40 [.pointer (some ⟨g0, 0, none⟩), .int .i64 d1, .int .i64 d2] W (m0) (fun v m' => v = .int .i64 ((dCut d0 d1 d2).2) ∧ Ow (.ptr TdiskDisk) m' [.pointer (some ⟨g0, 0, none⟩)] (g0, (dCut d0 d1 d2).1)) := by
  have h1' := h1; simp only [inK] at h1'
  have h2' := h2; simp only [inK] at h2'
  refine CallR.ofB (n := 43) hm Try.func40 rfl rfl rfl ?_
  refine VC.rs ?_
  refine VO.as ?_
  refine VO.k4 0 1 2 6 ?_
  refine VC.seq ?_
  refine VC.rs ?_
  refine VO.mv ?_
  refine VO.call 1 rfl fnOk65 rfl rfl (fun W hW => dWrong_ok W (hW.at (i := 1) rfl) h0) (fun v1 m1 hv1 => ?_)
  obtain ⟨rfl, w1_0⟩ := hv1
  refine VO.as ?_
  refine VO.k5 0 1 2 6 7 ?_
  refine VC.rs ?_
  refine VO.mv ?_
  refine VO.y rfl (.neq rfl rfl) ?_
  refine VO.kp [1, 0] [(1, m1), (0, mout (wm W) (m0))] ?_
  refine VO.k6 0 1 2 6 7 11 ?_
  refine VC.cond rfl (fun hc2 => ?_) (fun hc2 => ?_)
  · -- T
    refine VC.rs ?_
    refine VO.mv ?_
    refine VO.as ?_
    refine VO.k6 0 1 2 6 7 11 ?_
    refine VC.ret ?_
    refine outR ?_
    refine ⟨_, _, res_run (rs := [.tmp 6]) rfl (.tmp rfl .nil), fun W_ hI => out_of (l := [m1]) hI [1] rfl rfl (mle_refl _) (fun hS_ => ?_)⟩
    dsimp only [packV]
    have hm0_ : ((dCut d0 d1 d2).1 : DdiskDisk) = d0 := by first | rfl | (exact fin0_dCut_ok)
    refine ⟨?_, ?_⟩
    rotate_left
    · rw [hm0_]; exact (Ow.up w1_0 (hS_.1 _ (.head _)))
    all_goals (first | rfl | (exact fin0_dCut_ok))
  · -- F
    refine VC.skip ?_
    refine outN ?_
    refine VC.seq ?_
    refine VC.rs ?_
    refine VO.mv ?_
    refine VO.callN 103 rfl fnOk73 rfl (fun W hW => dIs_ok W d1 bdk) (fun v3 m3 hv3 => ?_)
    subst hv3
    refine VO.y rfl (.notD rfl) ?_
    refine VO.mv ?_
    refine VO.dec (t := 16) rfl (fun hc4 => ?_) (fun hc4 => ?_)
    · -- FT
      refine VO.gN ?_
      refine VO.gN ?_
      refine VO.y rfl (.pT rfl rfl) ?_
      refine VO.mv ?_
      refine VO.gN ?_
      refine VO.gN ?_
      refine VO.gN ?_
      refine VO.gN ?_
      refine VO.gN ?_
      refine VO.gN ?_
      refine VO.y rfl (.pT rfl rfl) ?_
      refine VO.k7 0 1 2 6 7 11 27 ?_
      refine VC.condT rfl ?_
      refine VC.rs ?_
      refine VO.as ?_
      refine VO.k7 0 1 2 6 7 11 27 ?_
      refine VC.ret ?_
      refine outR ?_
      refine ⟨_, _, res_run (rs := [.tmp 6]) rfl (.tmp rfl .nil), fun W_ hI => out_of (l := [m1]) hI [1] rfl rfl (mle_refl _) (fun hS_ => ?_)⟩
      dsimp only [packV]
      have hm0_ : ((dCut d0 d1 d2).1 : DdiskDisk) = d0 := by first | rfl | (exact fin0_dCut_ok)
      refine ⟨?_, ?_⟩
      rotate_left
      · rw [hm0_]; exact (Ow.up w1_0 (hS_.1 _ (.head _)))
      all_goals (first | rfl | (exact fin0_dCut_ok))
    · -- FF
      refine VO.gy rfl ⟨_, rfl, rfl⟩ (.mv rfl) ?_
      refine VO.gy rfl ⟨_, rfl, rfl⟩ (.lss rfl rfl) ?_
      refine VO.y rfl (.pF rfl rfl) ?_
      refine VO.mv ?_
      refine VO.dec (t := 20) rfl (fun hc5 => ?_) (fun hc5 => ?_)
      · -- FFT
        refine VO.gN ?_
        refine VO.gN ?_
        refine VO.gN ?_
        refine VO.gN ?_
        refine VO.gN ?_
        refine VO.gN ?_
        refine VO.y rfl (.pT rfl rfl) ?_
        refine VO.k7 0 1 2 6 7 11 27 ?_
        refine VC.condT rfl ?_
        refine VC.rs ?_
        refine VO.as ?_
        refine VO.k7 0 1 2 6 7 11 27 ?_
        refine VC.ret ?_
        refine outR ?_
        refine ⟨_, _, res_run (rs := [.tmp 6]) rfl (.tmp rfl .nil), fun W_ hI => out_of (l := [m1]) hI [1] rfl rfl (mle_refl _) (fun hS_ => ?_)⟩
        dsimp only [packV]
        have hm0_ : ((dCut d0 d1 d2).1 : DdiskDisk) = d0 := by first | rfl | (exact fin0_dCut_ok)
        refine ⟨?_, ?_⟩
        rotate_left
        · rw [hm0_]; exact (Ow.up w1_0 (hS_.1 _ (.head _)))
        all_goals (first | rfl | (exact fin0_dCut_ok))
      · -- FFF
        refine VO.gy rfl ⟨_, rfl, rfl⟩ (.mv rfl) ?_
        refine VO.gy rfl ⟨_, rfl, rfl⟩ (.mv rfl) ?_
        refine VO.gy rfl ⟨_, rfl, rfl⟩ (.mv rfl) ?_
        refine VO.gcall 1 rfl ⟨_, rfl, rfl⟩ fnOk74 rfl rfl (fun W hW => dHeld_ok W (hW.at (i := 1) rfl) w1_0 d1 bdk (by assumption) bd (by first | assumption | (apply Decidable.not_not.1; assumption))) (fun v6 m6 hv6 => ?_)
        obtain ⟨s6_0, p6_0, p6_1, rfl, hS6, f6_0, w6_0⟩ := hv6
        refine VO.inv _ (fun _ h => h.parts (i := 1) rfl hS6 [107, 108]) ?_
        have hfa9 := heldB_size d0.2.2.2.2.2.1 d0.2.2.2.2.2.2 d1
        obtain ⟨A6_0, c6_0, eq6_0, l6_0, k6_0⟩ := f6_0.slice
        subst eq6_0
        simp only [maxLen] at k6_0
        refine VO.gy rfl ⟨_, rfl, rfl⟩ (.lenS rfl tsl38) ?_
        refine VO.gy rfl ⟨_, rfl, rfl⟩ (.gtr rfl rfl) ?_
        refine VO.y rfl (.pF rfl rfl) ?_
        refine VO.k7 0 1 2 6 7 11 27 ?_
        refine VC.cond rfl (fun hc10 => ?_) (fun hc10 => ?_)
        · -- FFFT
          refine VC.rs ?_
          refine VO.as ?_
          refine VO.k7 0 1 2 6 7 11 27 ?_
          refine VC.ret ?_
          refine outR ?_
          refine ⟨_, _, res_run (rs := [.tmp 6]) rfl (.tmp rfl .nil), fun W_ hI => out_of (l := [p6_1]) hI [108] rfl rfl (mle_refl _) (fun hS_ => ?_)⟩
          dsimp only [packV]
          have hm0_ : ((dCut d0 d1 d2).1 : DdiskDisk) = d0 := by first | rfl | (exact fin0_dCut_ok)
          refine ⟨?_, ?_⟩
          rotate_left
          · rw [hm0_]; exact (Ow.up w6_0 (hS_.1 _ (.head _)))
          all_goals (first | rfl | (exact fin0_dCut_ok))
        · -- FFFF
          refine VC.skip ?_
          refine outN ?_
          refine VC.seq ?_
          refine VC.rs ?_
          refine VO.mv ?_
          refine VO.call 108 rfl fnOk76 rfl rfl (fun W hW => dBurn_ok W (hW.at (i := 108) rfl) w6_0 (by assumption) bd) (fun v11 m11 hv11 => ?_)
          obtain ⟨rfl, w11_0⟩ := hv11
          have hfa12 := (burn_ok (show okD d0 by assumption))
          have hfa13 := (burn_w (show okD d0 by assumption))
          have hfa14 := (len_w (burnD d0).1)
          refine VO.y rfl (.notD rfl) ?_
          refine VO.k8 0 1 2 6 7 11 27 30 ?_
          refine VC.cond rfl (fun hc15 => ?_) (fun hc15 => ?_)
          · -- FFFFT
            refine VC.rs ?_
            refine VO.as ?_
            refine VO.kp [108, 0] [(108, m11), (0, mout (wm W) (m0))] ?_
            refine VO.k8 0 1 2 6 7 11 27 30 ?_
            refine VC.ret ?_
            refine outR ?_
            refine ⟨_, _, res_run (rs := [.tmp 6]) rfl (.tmp rfl .nil), fun W_ hI => out_of (l := [m11]) hI [108] rfl rfl (mle_refl _) (fun hS_ => ?_)⟩
            dsimp only [packV]
            have hm0_ : ((dCut d0 d1 d2).1 : DdiskDisk) = (burnD d0).1 := by first | rfl | (exact fin0_dCut_ok)
            refine ⟨?_, ?_⟩
            rotate_left
            · rw [hm0_]; exact (Ow.up w11_0 (hS_.1 _ (.head _)))
            all_goals (first | rfl | (exact fin0_dCut_ok))
          · -- FFFFF
            refine VC.skip ?_
            refine outN ?_
            refine VC.rs ?_
            refine VO.mv ?_
            refine VO.mv ?_
            refine VO.y rfl (.nilp rfl) ?_
            refine VO.y rfl (.fa rfl tst62 rfl) ?_
            obtain ⟨q16_E, q16_A5, q16_c5, q16_A6, q16_c6, q16_A7, q16_c7, q16_A8, q16_c8, q16_A9, q16_c9, q16_n5, q16_n6, q16_n7, q16_n8, q16_n9, _, q16_S, q16_3, q16_4, q16_5, q16_6, q16_7, q16_8, q16_9⟩ := openP_diskDisk (x0 := ((burnD d0).1).1) (x1 := ((burnD d0).1).2.1) (x2 := ((burnD d0).1).2.2.1) (x3 := ((burnD d0).1).2.2.2.1) (x4 := ((burnD d0).1).2.2.2.2.1) (x5 := (((burnD d0).1).2.2.2.2.2.1).1) (x6 := (((burnD d0).1).2.2.2.2.2.1).2.1) (x7 := (((burnD d0).1).2.2.2.2.2.1).2.2.1) (x8 := (((burnD d0).1).2.2.2.2.2.1).2.2.2) (x9 := ((burnD d0).1).2.2.2.2.2.2) w11_0
            simp only [inK] at q16_3
            simp only [inK] at q16_4
            have q16_r5 := q16_5.rm
            have q16_r6 := q16_6.rm
            have q16_r7 := q16_7.rm
            have q16_r8 := q16_8.rm
            have q16_r9 := q16_9.rm
            refine VO.inv _ (fun _ h => h.parts (i := 108) rfl q16_S [122, 117, 118, 119, 120, 121]) ?_
            refine VO.y rfl (.ld1 122 rfl tk60 rfl (cellsAt_one rfl rfl)) ?_
            refine VO.mv ?_
            refine VO.mv ?_
            refine VO.y rfl (.bst (cs := [Value.int .i64 (1), Value.int .i64 (d1), Value.slice none (0) (0), Value.int .i64 (d2)]) rfl tst107 tz107 rfl) ?_
            refine VO.bsl (cs := [Value.int .i64 (1), Value.int .i64 (d1), Value.slice none (0) (0), Value.int .i64 (d2)]) 124 rfl rfl tsl60 tz107 rfl rfl (fun g23 => ?_)
            refine VO.inv ((126, mnil) :: _) (fun _ h => h.nilc 126) ?_
            refine VO.appO (e := Tdiskstep) 121 126 124 rfl rfl rfl tsl60 tz107 rfl rfl rfl rfl q16_9 (mkO_diskstep 1 d1 [] d2 (Seps.nilAt 0 (Seps.nil _)) bdk bdk (Ow.nil _ _) bdk) Try.underlying60 (cellsAt_one rfl rfl) bdm bd (by decide) (fun v25 m25 ho25 => ?_)
            obtain ⟨A25, c25, rfl, l25, k25⟩ := ho25.slice
            simp only [maxLen] at k25
            refine VO.y rfl (.nilp rfl) ?_
            refine VO.y rfl (.fa rfl tst62 rfl) ?_
            refine VO.store (k := 1) 122 rfl rfl (.inr ⟨tk60, rfl⟩) rfl rfl rfl rfl rfl ?_
            refine VO.clsP 127 [122, 117, 118, 119, 120, 121] rfl (fun hg27 => (mkP_diskDisk (((burnD d0).1).1) (((burnD d0).1).2.1) (((burnD d0).1).2.2.1) (((burnD d0).1).2.2.2.1) (((burnD d0).1).2.2.2.2.1) ((((burnD d0).1).2.2.2.2.2.1).1) ((((burnD d0).1).2.2.2.2.2.1).2.1) ((((burnD d0).1).2.2.2.2.2.1).2.2.1) ((((burnD d0).1).2.2.2.2.2.1).2.2.2) ((((burnD d0).1).2.2.2.2.2.2) ++ [((1, d1, [], d2) : Ddiskstep)]) hg27 bdk bdk (OwnL.ow (Ow.ownl q16_5 rfl mnil) rfl) (OwnL.ow (Ow.ownl q16_6 rfl mnil) rfl) (OwnL.ow (Ow.ownl q16_7 rfl mnil) rfl) (OwnL.ow (Ow.ownl q16_8 rfl mnil) rfl) ho25)) (fun mc27 ho27 => ?_)
            refine VO.kp [127, 0] [(127, mc27), (0, mout (wm W) (m0))] ?_
            refine VO.k8 0 1 2 6 7 11 27 30 ?_
            refine VC.rs ?_
            refine VO.as ?_
            refine VO.k8 0 1 2 6 7 11 27 30 ?_
            refine VC.ret ?_
            refine ⟨_, _, res_run (rs := [.tmp 6]) rfl (.tmp rfl .nil), fun W_ hI => out_of (l := [mc27]) hI [127] rfl rfl (mle_refl _) (fun hS_ => ?_)⟩
            dsimp only [packV]
            have hm0_ : ((dCut d0 d1 d2).1 : DdiskDisk) = (((burnD d0).1).1, ((burnD d0).1).2.1, ((burnD d0).1).2.2.1, ((burnD d0).1).2.2.2.1, ((burnD d0).1).2.2.2.2.1, (((burnD d0).1).2.2.2.2.2.1), (((burnD d0).1).2.2.2.2.2.2) ++ [((1, d1, [], d2) : Ddiskstep)]) := by first | rfl | (exact fin0_dCut_ok)
            refine ⟨?_, ?_⟩
            rotate_left
            · rw [hm0_]; exact (Ow.up ho27 (hS_.1 _ (.head _)))
            all_goals (first | rfl | (exact fin0_dCut_ok))
theorem dSync_ok (W : World) {m0 : Mem} (hm : mle (m0) (wm W)) {g0 : Nat} {d0 : DdiskDisk} (h0 : Ow (.ptr TdiskDisk) m0 [.pointer (some ⟨g0, 0, none⟩)] (g0, d0)) (e0 : okD d0) (e1 : wD d0 ≤ 1000000000000) : CallR Try.prog 41 [.pointer (some ⟨g0, 0, none⟩)] W (m0) (fun v m' => v = .int .i64 ((dSync d0).2) ∧ Ow (.ptr TdiskDisk) m' [.pointer (some ⟨g0, 0, none⟩)] (g0, (dSync d0).1)) := by
  refine CallR.ofB (n := 19) hm Try.func41 rfl rfl rfl ?_
  refine VC.rs ?_
  refine VO.as ?_
  refine VO.k2 0 2 ?_
  refine VC.seq ?_
  refine VC.rs ?_
  refine VO.mv ?_
  refine VO.call 1 rfl fnOk65 rfl rfl (fun W hW => dWrong_ok W (hW.at (i := 1) rfl) h0) (fun v1 m1 hv1 => ?_)
  obtain ⟨rfl, w1_0⟩ := hv1
  refine VO.as ?_
  refine VO.k3 0 2 3 ?_
  refine VC.rs ?_
  refine VO.mv ?_
  refine VO.y rfl (.neq rfl rfl) ?_
  refine VO.kp [1, 0] [(1, m1), (0, mout (wm W) (m0))] ?_
  refine VO.k4 0 2 3 7 ?_
  refine VC.cond rfl (fun hc2 => ?_) (fun hc2 => ?_)
  · -- T
    refine VC.rs ?_
    refine VO.mv ?_
    refine VO.as ?_
    refine VO.k4 0 2 3 7 ?_
    refine VC.ret ?_
    refine outR ?_
    refine ⟨_, _, res_run (rs := [.tmp 2]) rfl (.tmp rfl .nil), fun W_ hI => out_of (l := [m1]) hI [1] rfl rfl (mle_refl _) (fun hS_ => ?_)⟩
    dsimp only [packV]
    have hm0_ : ((dSync d0).1 : DdiskDisk) = d0 := by first | rfl | (first | (rw [sync_bad (by assumption)] <;> rfl) | (rw [sync_off (by assumption) (by assumption)] <;> rfl) | (rw [sync_go (by assumption) (by assumption)] <;> rfl))
    refine ⟨?_, ?_⟩
    rotate_left
    · rw [hm0_]; exact (Ow.up w1_0 (hS_.1 _ (.head _)))
    all_goals (first | rfl | (first | (rw [sync_bad (by assumption)] <;> rfl) | (rw [sync_off (by assumption) (by assumption)] <;> rfl) | (rw [sync_go (by assumption) (by assumption)] <;> rfl)))
  · -- F
    refine VC.skip ?_
    refine outN ?_
    refine VC.seq ?_
    refine VC.rs ?_
    refine VO.mv ?_
    refine VO.call 1 rfl fnOk76 rfl rfl (fun W hW => dBurn_ok W (hW.at (i := 1) rfl) w1_0 (by assumption) bd) (fun v3 m3 hv3 => ?_)
    obtain ⟨rfl, w3_0⟩ := hv3
    have hfa4 := (burn_ok (show okD d0 by assumption))
    have hfa5 := (burn_w (show okD d0 by assumption))
    have hfa6 := (len_w (burnD d0).1)
    refine VO.y rfl (.notD rfl) ?_
    refine VO.k5 0 2 3 7 11 ?_
    refine VC.cond rfl (fun hc7 => ?_) (fun hc7 => ?_)
    · -- FT
      refine VC.rs ?_
      refine VO.as ?_
      refine VO.k5 0 2 3 7 11 ?_
      refine VC.ret ?_
      refine outR ?_
      refine ⟨_, _, res_run (rs := [.tmp 2]) rfl (.tmp rfl .nil), fun W_ hI => out_of (l := [m3]) hI [1] rfl rfl (mle_refl _) (fun hS_ => ?_)⟩
      dsimp only [packV]
      have hm0_ : ((dSync d0).1 : DdiskDisk) = (burnD d0).1 := by first | rfl | (first | (rw [sync_bad (by assumption)] <;> rfl) | (rw [sync_off (by assumption) (by assumption)] <;> rfl) | (rw [sync_go (by assumption) (by assumption)] <;> rfl))
      refine ⟨?_, ?_⟩
      rotate_left
      · rw [hm0_]; exact (Ow.up w3_0 (hS_.1 _ (.head _)))
      all_goals (first | rfl | (first | (rw [sync_bad (by assumption)] <;> rfl) | (rw [sync_off (by assumption) (by assumption)] <;> rfl) | (rw [sync_go (by assumption) (by assumption)] <;> rfl)))
    · -- FF
      refine VC.skip ?_
      refine outN ?_
      refine VC.rs ?_
      refine VO.mv ?_
      refine VO.mv ?_
      refine VO.y rfl (.nilp rfl) ?_
      refine VO.y rfl (.fa rfl tst62 rfl) ?_
      obtain ⟨q8_E, q8_A5, q8_c5, q8_A6, q8_c6, q8_A7, q8_c7, q8_A8, q8_c8, q8_A9, q8_c9, q8_n5, q8_n6, q8_n7, q8_n8, q8_n9, _, q8_S, q8_3, q8_4, q8_5, q8_6, q8_7, q8_8, q8_9⟩ := openP_diskDisk (x0 := ((burnD d0).1).1) (x1 := ((burnD d0).1).2.1) (x2 := ((burnD d0).1).2.2.1) (x3 := ((burnD d0).1).2.2.2.1) (x4 := ((burnD d0).1).2.2.2.2.1) (x5 := (((burnD d0).1).2.2.2.2.2.1).1) (x6 := (((burnD d0).1).2.2.2.2.2.1).2.1) (x7 := (((burnD d0).1).2.2.2.2.2.1).2.2.1) (x8 := (((burnD d0).1).2.2.2.2.2.1).2.2.2) (x9 := ((burnD d0).1).2.2.2.2.2.2) w3_0
      simp only [inK] at q8_3
      simp only [inK] at q8_4
      have q8_r5 := q8_5.rm
      have q8_r6 := q8_6.rm
      have q8_r7 := q8_7.rm
      have q8_r8 := q8_8.rm
      have q8_r9 := q8_9.rm
      refine VO.inv _ (fun _ h => h.parts (i := 1) rfl q8_S [114, 109, 110, 111, 112, 113]) ?_
      refine VO.y rfl (.ld1 114 rfl tk60 rfl (cellsAt_one rfl rfl)) ?_
      refine VO.y rfl (.lenS rfl tsl60) ?_
      refine VO.clsP 116 [114, 109, 110, 111, 112, 113] rfl (fun hg16 => (show Ow (.ptr TdiskDisk) _ _ (_, ((burnD d0).1)) from (mkP_diskDisk (((burnD d0).1).1) (((burnD d0).1).2.1) (((burnD d0).1).2.2.1) (((burnD d0).1).2.2.2.1) (((burnD d0).1).2.2.2.2.1) ((((burnD d0).1).2.2.2.2.2.1).1) ((((burnD d0).1).2.2.2.2.2.1).2.1) ((((burnD d0).1).2.2.2.2.2.1).2.2.1) ((((burnD d0).1).2.2.2.2.2.1).2.2.2) (((burnD d0).1).2.2.2.2.2.2) hg16 bdk bdk (OwnL.ow (Ow.ownl q8_5 rfl mnil) rfl) (OwnL.ow (Ow.ownl q8_6 rfl mnil) rfl) (OwnL.ow (Ow.ownl q8_7 rfl mnil) rfl) (OwnL.ow (Ow.ownl q8_8 rfl mnil) rfl) q8_9))) (fun mc16 ho16 => ?_)
      refine VO.call 116 rfl fnOk70 rfl rfl (fun W hW => dSettle_ok W (hW.at (i := 116) rfl) ho16 (((((burnD d0).1).2.2.2.2.2.2).length : Nat) : Int) bdk (by assumption) bd bd) (fun v15 m15 hv15 => ?_)
      obtain ⟨rfl, w15_0⟩ := hv15
      have hfa17 := (settle_ok (((((burnD d0).1).2.2.2.2.2.2).length : Nat) : Int).toNat (show okD ((burnD d0).1) by assumption))
      have hfa18 := (settle_w ((burnD d0).1) (((((burnD d0).1).2.2.2.2.2.2).length : Nat) : Int).toNat)
      refine VO.k5 0 2 3 7 11 ?_
      refine VC.rs ?_
      refine VO.as ?_
      refine VO.kp [116, 0] [(116, m15), (0, mout (wm W) (m0))] ?_
      refine VO.k5 0 2 3 7 11 ?_
      refine VC.ret ?_
      refine ⟨_, _, res_run (rs := [.tmp 2]) rfl (.tmp rfl .nil), fun W_ hI => out_of (l := [m15]) hI [116] rfl rfl (mle_refl _) (fun hS_ => ?_)⟩
      dsimp only [packV]
      have hm0_ : ((dSync d0).1 : DdiskDisk) = settleD ((burnD d0).1) (((((burnD d0).1).2.2.2.2.2.2).length : Nat) : Int).toNat := by first | rfl | (first | (rw [sync_bad (by assumption)] <;> rfl) | (rw [sync_off (by assumption) (by assumption)] <;> rfl) | (rw [sync_go (by assumption) (by assumption)] <;> rfl))
      refine ⟨?_, ?_⟩
      rotate_left
      · rw [hm0_]; exact (Ow.up w15_0 (hS_.1 _ (.head _)))
      all_goals (first | rfl | (first | (rw [sync_bad (by assumption)] <;> rfl) | (rw [sync_off (by assumption) (by assumption)] <;> rfl) | (rw [sync_go (by assumption) (by assumption)] <;> rfl)))
theorem dRead_ok (W : World) {m0 : Mem} (hm : mle (m0) (wm W)) {g0 : Nat} {d0 : DdiskDisk} (h0 : Ow (.ptr TdiskDisk) m0 [.pointer (some ⟨g0, 0, none⟩)] (g0, d0)) (d1 : Int) (h1 : inK .i64 d1) (e0 : okD d0) (e1 : wD d0 ≤ 1000000000000) : CallR Try.prog 38 [.pointer (some ⟨g0, 0, none⟩), .int .i64 d1] W (m0) (fun v m' => ∃ (s0 : Value), ∃ (p0 : Mem), ∃ (p1 : Mem), v = .tuple #[s0, .int .i64 ((dRead d0 d1).2)] ∧ Seps m' [p0, p1] ∧ Ow (.sl .byte) p0 [s0] ((dRead d0 d1).1) ∧ Ow (.ptr TdiskDisk) p1 [.pointer (some ⟨g0, 0, none⟩)] (g0, d0)) := by
  have h1' := h1; simp only [inK] at h1'
  refine CallR.ofB (n := 18) hm Try.func38 rfl rfl rfl ?_
  refine VC.rs ?_
  refine VO.as ?_
  refine VO.as ?_
  refine VO.k4 0 1 4 5 ?_
  refine VC.seq ?_
  refine VC.rs ?_
  refine VO.mv ?_
  refine VO.call 1 rfl fnOk65 rfl rfl (fun W hW => dWrong_ok W (hW.at (i := 1) rfl) h0) (fun v1 m1 hv1 => ?_)
  obtain ⟨rfl, w1_0⟩ := hv1
  refine VO.as ?_
  refine VO.k5 0 1 4 5 6 ?_
  refine VC.rs ?_
  refine VO.mv ?_
  refine VO.y rfl (.neq rfl rfl) ?_
  refine VO.kp [1, 0] [(1, m1), (0, mout (wm W) (m0))] ?_
  refine VO.k6 0 1 4 5 6 10 ?_
  refine VC.cond rfl (fun hc2 => ?_) (fun hc2 => ?_)
  · -- T
    refine VC.rs ?_
    refine VO.mv ?_
    refine VO.as ?_
    refine VO.as ?_
    refine VO.k6 0 1 4 5 6 10 ?_
    refine VC.ret ?_
    refine outR ?_
    refine ⟨_, _, res_run (rs := [.tmp 4, .tmp 5]) rfl (.tmp rfl (.tmp rfl .nil)), fun W_ hI => out_of (l := [m1]) hI [1] rfl rfl (mle_refl _) (fun hS_ => ?_)⟩
    dsimp only [packV]
    have he0 : ((dRead d0 d1).1 : Ty.Den (.sl .byte)) = [] := by first | rfl | (first | rfl | (simp [dRead, *]; done))
    have hm0_ : (d0 : DdiskDisk) = d0 := by first | rfl | (first | rfl | (simp [dRead, *]; done))
    refine ⟨Value.slice none (0) (0), muns [], muns [m1], ?_, ?_, ?_, ?_⟩
    rotate_left
    · exact Seps.grp (ls := [[], [m1]]) hS_
    · rw [he0]; exact (Ow.nil _ _)
    · rw [hm0_]; exact (Ow.up w1_0 ((Seps.self hS_ (List.Sublist.cons_cons _ List.Sublist.slnil)).1 _ (.head _)))
    all_goals (first | rfl | (first | rfl | (simp [dRead, *]; done)))
  · -- F
    refine VC.skip ?_
    refine outN ?_
    refine VC.seq ?_
    refine VC.rs ?_
    refine VO.mv ?_
    refine VO.callN 103 rfl fnOk73 rfl (fun W hW => dIs_ok W d1 bdk) (fun v3 m3 hv3 => ?_)
    subst hv3
    refine VO.y rfl (.notD rfl) ?_
    refine VO.k7 0 1 4 5 6 10 14 ?_
    refine VC.cond rfl (fun hc4 => ?_) (fun hc4 => ?_)
    · -- FT
      refine VC.rs ?_
      refine VO.as ?_
      refine VO.as ?_
      refine VO.k7 0 1 4 5 6 10 14 ?_
      refine VC.ret ?_
      refine outR ?_
      refine ⟨_, _, res_run (rs := [.tmp 4, .tmp 5]) rfl (.tmp rfl (.tmp rfl .nil)), fun W_ hI => out_of (l := [m1]) hI [1] rfl rfl (mle_refl _) (fun hS_ => ?_)⟩
      dsimp only [packV]
      have he0 : ((dRead d0 d1).1 : Ty.Den (.sl .byte)) = [] := by first | rfl | (first | rfl | (simp [dRead, *]; done))
      have hm0_ : (d0 : DdiskDisk) = d0 := by first | rfl | (first | rfl | (simp [dRead, *]; done))
      refine ⟨Value.slice none (0) (0), muns [], muns [m1], ?_, ?_, ?_, ?_⟩
      rotate_left
      · exact Seps.grp (ls := [[], [m1]]) hS_
      · rw [he0]; exact (Ow.nil _ _)
      · rw [hm0_]; exact (Ow.up w1_0 ((Seps.self hS_ (List.Sublist.cons_cons _ List.Sublist.slnil)).1 _ (.head _)))
      all_goals (first | rfl | (first | rfl | (simp [dRead, *]; done)))
    · -- FF
      refine VC.skip ?_
      refine outN ?_
      refine VC.rs ?_
      refine VO.mv ?_
      refine VO.mv ?_
      refine VO.call 1 rfl fnOk74 rfl rfl (fun W hW => dHeld_ok W (hW.at (i := 1) rfl) w1_0 d1 bdk (by assumption) bd (by first | assumption | (apply Decidable.not_not.1; assumption))) (fun v5 m5 hv5 => ?_)
      obtain ⟨s5_0, p5_0, p5_1, rfl, hS5, f5_0, w5_0⟩ := hv5
      refine VO.inv _ (fun _ h => h.parts (i := 1) rfl hS5 [106, 107]) ?_
      have hfa8 := heldB_size d0.2.2.2.2.2.1 d0.2.2.2.2.2.2 d1
      obtain ⟨A5_0, c5_0, eq5_0, l5_0, k5_0⟩ := f5_0.slice
      subst eq5_0
      simp only [maxLen] at k5_0
      refine VO.as ?_
      refine VO.as ?_
      refine VO.k7 0 1 4 5 6 10 14 ?_
      refine VC.ret ?_
      refine ⟨_, _, res_run (rs := [.tmp 4, .tmp 5]) rfl (.tmp rfl (.tmp rfl .nil)), fun W_ hI => out_of (l := [p5_0, p5_1]) hI [106, 107] rfl rfl (mle_refl _) (fun hS_ => ?_)⟩
      dsimp only [packV]
      have he0 : ((dRead d0 d1).1 : Ty.Den (.sl .byte)) = heldB d0.2.2.2.2.2.1 d0.2.2.2.2.2.2 d1 := by first | rfl | (first | rfl | (simp [dRead, *]; done))
      have hm0_ : (d0 : DdiskDisk) = d0 := by first | rfl | (first | rfl | (simp [dRead, *]; done))
      refine ⟨Value.slice A5_0 ((heldB d0.2.2.2.2.2.1 d0.2.2.2.2.2.2 d1).length) (c5_0), muns [p5_0], muns [p5_1], ?_, ?_, ?_, ?_⟩
      rotate_left
      · exact Seps.grp (ls := [[p5_0], [p5_1]]) hS_
      · rw [he0]; exact (Ow.up (OwnL.ow (Ow.ownl f5_0 rfl mnil) rfl) ((Seps.self hS_ (List.Sublist.cons_cons _ (List.Sublist.cons _ List.Sublist.slnil))).1 _ (.head _)))
      · rw [hm0_]; exact (Ow.up w5_0 ((Seps.self hS_ (List.Sublist.cons _ (List.Sublist.cons_cons _ List.Sublist.slnil))).1 _ (.head _)))
      all_goals (first | rfl | (first | rfl | (simp [dRead, *]; done)))
theorem dOn_ok (W : World) {m0 : Mem} (hm : mle (m0) (wm W)) {g0 : Nat} {d0 : DdiskDisk} (h0 : Ow (.ptr TdiskDisk) m0 [.pointer (some ⟨g0, 0, none⟩)] (g0, d0)) : CallR Try.prog 32 [.pointer (some ⟨g0, 0, none⟩)] W (m0) (fun v m' => v = .bool (decide (d0.1 = true ∧ d0.2.1 = false)) ∧ Ow (.ptr TdiskDisk) m' [.pointer (some ⟨g0, 0, none⟩)] (g0, d0)) := by
  refine CallR.ofB (n := 13) hm Try.func32 rfl rfl rfl ?_
  refine VC.rs ?_
  refine VO.as ?_
  refine VO.k2 0 2 ?_
  refine VC.rs ?_
  refine VO.mv ?_
  refine VO.call 1 rfl fnOk69 rfl rfl (fun W hW => dNone_ok W (hW.at (i := 1) rfl) h0) (fun v1 m1 hv1 => ?_)
  obtain ⟨rfl, w1_0⟩ := hv1
  refine VO.y rfl (.notD rfl) ?_
  refine VO.mv ?_
  refine VO.dec (t := 6) rfl (fun hc2 => ?_) (fun hc2 => ?_)
  · -- T
    refine VO.gy rfl ⟨_, rfl, rfl⟩ (.mv rfl) ?_
    refine VO.gy rfl ⟨_, rfl, rfl⟩ (.nilp rfl) ?_
    refine VO.gy rfl ⟨_, rfl, rfl⟩ (.fa rfl tst62 rfl) ?_
    obtain ⟨q3_E, q3_A5, q3_c5, q3_A6, q3_c6, q3_A7, q3_c7, q3_A8, q3_c8, q3_A9, q3_c9, q3_n5, q3_n6, q3_n7, q3_n8, q3_n9, _, q3_S, q3_3, q3_4, q3_5, q3_6, q3_7, q3_8, q3_9⟩ := openP_diskDisk (x0 := d0.1) (x1 := d0.2.1) (x2 := d0.2.2.1) (x3 := d0.2.2.2.1) (x4 := d0.2.2.2.2.1) (x5 := d0.2.2.2.2.2.1.1) (x6 := d0.2.2.2.2.2.1.2.1) (x7 := d0.2.2.2.2.2.1.2.2.1) (x8 := d0.2.2.2.2.2.1.2.2.2) (x9 := d0.2.2.2.2.2.2) w1_0
    simp only [inK] at q3_3
    simp only [inK] at q3_4
    have q3_r5 := q3_5.rm
    have q3_r6 := q3_6.rm
    have q3_r7 := q3_7.rm
    have q3_r8 := q3_8.rm
    have q3_r9 := q3_9.rm
    refine VO.inv _ (fun _ h => h.parts (i := 1) rfl q3_S [109, 104, 105, 106, 107, 108]) ?_
    refine VO.gy rfl ⟨_, rfl, rfl⟩ (.ld1 109 rfl tk4 rfl (cellsAt_one rfl rfl)) ?_
    refine VO.gy rfl ⟨_, rfl, rfl⟩ (.not rfl) ?_
    refine VO.y rfl (.pT rfl rfl) ?_
    refine VO.as ?_
    refine VO.clsP 110 [109, 104, 105, 106, 107, 108] rfl (fun hg10 => (show Ow (.ptr TdiskDisk) _ _ (_, d0) from (mkP_diskDisk d0.1 d0.2.1 d0.2.2.1 d0.2.2.2.1 d0.2.2.2.2.1 d0.2.2.2.2.2.1.1 d0.2.2.2.2.2.1.2.1 d0.2.2.2.2.2.1.2.2.1 d0.2.2.2.2.2.1.2.2.2 d0.2.2.2.2.2.2 hg10 bdk bdk (OwnL.ow (Ow.ownl q3_5 rfl mnil) rfl) (OwnL.ow (Ow.ownl q3_6 rfl mnil) rfl) (OwnL.ow (Ow.ownl q3_7 rfl mnil) rfl) (OwnL.ow (Ow.ownl q3_8 rfl mnil) rfl) q3_9))) (fun mc10 ho10 => ?_)
    refine VO.k2 0 2 ?_
    refine VC.ret ?_
    refine ⟨_, _, res_run (rs := [.tmp 2]) rfl (.tmp rfl .nil), fun W_ hI => out_of (l := [mc10]) hI [110] rfl rfl (mle_refl _) (fun hS_ => ?_)⟩
    dsimp only [packV]
    have hm0_ : (d0 : DdiskDisk) = d0 := by first | rfl | (simp [*]; done)
    refine ⟨?_, ?_⟩
    rotate_left
    · rw [hm0_]; exact (Ow.up ho10 (hS_.1 _ (.head _)))
    all_goals (first | rfl | (cases h1_ : d0.1 <;> cases h2_ : d0.2.1 <;> simp_all))
  · -- F
    refine VO.gN ?_
    refine VO.gN ?_
    refine VO.gN ?_
    refine VO.gN ?_
    refine VO.gN ?_
    refine VO.y rfl (.pF rfl rfl) ?_
    refine VO.as ?_
    refine VO.k2 0 2 ?_
    refine VC.ret ?_
    refine ⟨_, _, res_run (rs := [.tmp 2]) rfl (.tmp rfl .nil), fun W_ hI => out_of (l := [m1]) hI [1] rfl rfl (mle_refl _) (fun hS_ => ?_)⟩
    dsimp only [packV]
    have hm0_ : (d0 : DdiskDisk) = d0 := by first | rfl | (simp [*]; done)
    refine ⟨?_, ?_⟩
    rotate_left
    · rw [hm0_]; exact (Ow.up w1_0 (hS_.1 _ (.head _)))
    all_goals (first | rfl | (cases h1_ : d0.1 <;> cases h2_ : d0.2.1 <;> simp_all))
abbrev TrunRuns : Ty := .pair (.ptr TdiskDisk) (.pair .bool (.sl TRun))
abbrev DrunRuns := (Nat × DdiskDisk) × Bool × (List DRun)
theorem openO_runRuns {m : Mem} {cs : List Value} {x0 : Nat × DdiskDisk} {x1 : Bool} {x2 : List DRun} (h : Ow TrunRuns m cs (x0, x1, x2)) : ∃ (A2 : Option Addr), ∃ (c2 : Nat), ∃ (n0 : Mem), ∃ (n2 : Mem), cs = [(.pointer (some ⟨x0.1, 0, none⟩) : Value), .bool x1, .slice A2 x2.length c2] ∧ Seps m [n0, n2] ∧ Ow (.ptr TdiskDisk) n0 [.pointer (some ⟨x0.1, 0, none⟩)] x0 ∧ Ow (.sl TRun) n2 [.slice A2 x2.length c2] x2 := by
  obtain ⟨p1, q1, ma1, mb1, rfl, dj1, la1, lb1, u1, w1⟩ := Ow.pair h
  have z2 := u1
  obtain ⟨rfl, _⟩ := u1
  obtain ⟨p3, q3, ma3, mb3, rfl, dj3, la3, lb3, u3, w3⟩ := Ow.pair w1
  obtain rfl := (show _ = _ from u3)
  have z5 := w3
  obtain ⟨A5, c5, rfl, _⟩ := Ow.slice1 w3
  exact ⟨A5, c5, _, _, rfl, (Seps.app dj1 la1 lb1 (Seps.one (mle_refl _)) (Seps.app dj3 la3 lb3 (Seps.nil _) (Seps.one (mle_refl _)))), z2, z5⟩
theorem mkO_runRuns {m : Mem} {n0 n2 : Mem} (x0 : Nat × DdiskDisk) (x1 : Bool) (x2 : List DRun) (hS : Seps m [n0, n2]) {v0 : Value} (h0 : Ow (.ptr TdiskDisk) n0 [v0] x0) {v2 : Value} (h2 : Ow (.sl TRun) n2 [v2] x2) : Ow TrunRuns m [v0, .bool x1, v2] (x0, x1, x2) := by
  obtain ⟨e1, la1, lb1, Sa1, Sb1⟩ := Seps.cut (l := [n0]) (r := [n2]) hS
  obtain ⟨e2, la2, lb2, Sa2, Sb2⟩ := Seps.cut (l := []) (r := [n2]) Sb1
  exact (Ow.mkPair (c1 := [_]) e1 la1 lb1 (h0.up (Sa1.1 _ (.head _))) (Ow.mkPair (c1 := [_]) e2 la2 lb2 (show Ow .bool _ [_] _ from rfl) (h2.up (Sb2.1 _ (.head _)))))
theorem openP_runRuns {m : Mem} {cs : List Value} {g : Nat} {x0 : Nat × DdiskDisk} {x1 : Bool} {x2 : List DRun} (h : Ow (.ptr TrunRuns) m cs (g, (x0, x1, x2))) : ∃ (E : TypeId), ∃ (A2 : Option Addr), ∃ (c2 : Nat), ∃ (n0 : Mem), ∃ (n2 : Mem), cs = [.pointer (some ⟨g, 0, none⟩)] ∧ Seps m [mone g (.cells [(.pointer (some ⟨x0.1, 0, none⟩) : Value), .bool x1, .slice A2 x2.length c2].toArray E (0, 0)), n0, n2] ∧ Ow (.ptr TdiskDisk) n0 [.pointer (some ⟨x0.1, 0, none⟩)] x0 ∧ Ow (.sl TRun) n2 [.slice A2 x2.length c2] x2 := by
  obtain ⟨rfl, rc, E, m1, hd, l0, l1, h1⟩ := Ow.opnP h
  obtain ⟨A2, c2, n0, n2, rfl, hS, f0, f2⟩ := openO_runRuns h1
  exact ⟨E, A2, c2, n0, n2, rfl, Seps.app hd l0 l1 (Seps.one (mle_refl _)) hS, f0, f2⟩
theorem mkP_runRuns {m : Mem} {g : Nat} {E : TypeId} {n0 n2 : Mem}{v0 : Value}{v2 : Value} (x0 : Nat × DdiskDisk) (x1 : Bool) (x2 : List DRun) (hS : Seps m [mone g (.cells [v0, .bool x1, v2].toArray E (0, 0)), n0, n2]) (h0 : Ow (.ptr TdiskDisk) n0 [v0] x0) (h2 : Ow (.sl TRun) n2 [v2] x2) : Ow (.ptr TrunRuns) m [.pointer (some ⟨g, 0, none⟩)] (g, (x0, x1, x2)) :=
  Ow.clsP hS fun hS => mkO_runRuns x0 x1 x2 hS h0 h2
abbrev DrunRuns0 := (Option Nat) × Bool × (List DRun)
theorem fnOk17 : fnOk Try.prog 17 = true := by kernel_rfl
theorem fnOk28 : fnOk Try.prog 28 = true := by kernel_rfl
theorem fnOk32 : fnOk Try.prog 32 = true := by kernel_rfl
theorem fnOk38 : fnOk Try.prog 38 = true := by kernel_rfl
theorem fnOk39 : fnOk Try.prog 39 = true := by kernel_rfl
theorem fnOk40 : fnOk Try.prog 40 = true := by kernel_rfl
theorem fnOk41 : fnOk Try.prog 41 = true := by kernel_rfl
theorem fnOk42 : fnOk Try.prog 42 = true := by kernel_rfl
theorem fnOk43 : fnOk Try.prog 43 = true := by kernel_rfl
theorem fnOk44 : fnOk Try.prog 44 = true := by kernel_rfl
theorem fnOk45 : fnOk Try.prog 45 = true := by kernel_rfl
theorem fnOk77 : fnOk Try.prog 77 = true := by kernel_rfl
theorem tk27 : tk Try.prog 27 = some none := by kernel_rfl
theorem tk47 : tk Try.prog 47 = some none := by kernel_rfl
theorem tst55 : tst Try.prog 55 = some [(0, 1), (1, 1), (2, 1)] := by kernel_rfl
theorem tz55 : tz Try.prog 55 = some [.pointer none, .bool false, .slice none 0 0] := by kernel_rfl
theorem uNone_ok (W : World) {l_ : List DRun} {br_ : Bool} {D_ : DdiskDisk} {gd_ : Nat} {m0 : Mem} (hm : mle (m0) (wm W)) {g0 : Nat} (h0 : Ow (.ptr TrunRuns) m0 [.pointer (some ⟨g0, 0, none⟩)] (g0, ((gd_, D_), br_, l_))) : CallR Try.prog 42 [.pointer (some ⟨g0, 0, none⟩)] W (m0) (fun v m' => v = .bool (decide (False)) ∧ Ow (.ptr TrunRuns) m' [.pointer (some ⟨g0, 0, none⟩)] (g0, ((gd_, D_), br_, l_))) := by
  refine CallR.ofB (n := 12) hm Try.func42 rfl rfl rfl ?_
  refine VC.rs ?_
  refine VO.as ?_
  refine VO.k2 0 2 ?_
  refine VC.rs ?_
  refine VO.mv ?_
  refine VO.y rfl (.pnil rfl rfl Try.underlying23 rfl) ?_
  refine VO.mv ?_
  refine VO.gy rfl ⟨_, rfl, rfl⟩ (.mv rfl) ?_
  refine VO.gy rfl ⟨_, rfl, rfl⟩ (.nilp rfl) ?_
  refine VO.gy rfl ⟨_, rfl, rfl⟩ (.fa rfl tst55 rfl) ?_
  obtain ⟨q1_E, q1_A2, q1_c2, q1_n0, q1_n2, _, q1_S, q1_0, q1_2⟩ := openP_runRuns (x0 := (gd_, D_)) (x1 := br_) (x2 := l_) h0
  dsimp only at q1_0
  have q1_r2 := q1_2.rm
  refine VO.inv _ (fun _ h => h.parts (i := 1) rfl q1_S [104, 102, 103]) ?_
  refine VO.gy rfl ⟨_, rfl, rfl⟩ (.ld1 104 rfl tk27 rfl (cellsAt_one rfl rfl)) ?_
  refine VO.gy rfl ⟨_, rfl, rfl⟩ (.pnil rfl rfl Try.underlying27 rfl) ?_
  refine VO.y rfl (.pF rfl rfl) ?_
  refine VO.as ?_
  refine VO.clsP 105 [104, 102, 103] rfl (fun hg5 => (mkP_runRuns (gd_, D_) br_ l_ hg5 q1_0 q1_2)) (fun mc5 ho5 => ?_)
  refine VO.k2 0 2 ?_
  refine VC.ret ?_
  refine ⟨_, _, res_run (rs := [.tmp 2]) rfl (.tmp rfl .nil), fun W_ hI => out_of (l := [mc5]) hI [105] rfl rfl (mle_refl _) (fun hS_ => ?_)⟩
  dsimp only [packV]
  have hm0_ : (((gd_, D_), br_, l_) : DrunRuns) = ((gd_, D_), br_, l_) := by first | rfl | (simp [*]; done)
  refine ⟨?_, ?_⟩
  rotate_left
  · rw [hm0_]; exact (Ow.up ho5 (hS_.1 _ (.head _)))
  all_goals (first | rfl | (simp [*]; done))
theorem uEnd_ok (W : World) {l_ : List DRun} {br_ : Bool} {D_ : DdiskDisk} {gd_ : Nat} {m0 : Mem} (hm : mle (m0) (wm W)) {g0 : Nat} (h0 : Ow (.ptr TrunRuns) m0 [.pointer (some ⟨g0, 0, none⟩)] (g0, ((gd_, D_), br_, l_))) (e0 : okU l_) : CallR Try.prog 28 [.pointer (some ⟨g0, 0, none⟩)] W (m0) (fun v m' => v = .int .i64 (endR l_) ∧ Ow (.ptr TrunRuns) m' [.pointer (some ⟨g0, 0, none⟩)] (g0, ((gd_, D_), br_, l_))) := by
  have hll := okU_len e0
  refine CallR.ofB (n := 26) hm Try.func28 rfl rfl rfl ?_
  refine VC.rs ?_
  refine VO.as ?_
  refine VO.k2 0 2 ?_
  refine VC.seq ?_
  refine VC.rs ?_
  refine VO.mv ?_
  refine VO.call 1 rfl fnOk42 rfl rfl (fun W hW => uNone_ok W (hW.at (i := 1) rfl) h0) (fun v1 m1 hv1 => ?_)
  try dsimp only at hv1
  obtain ⟨rfl, w1_0⟩ := hv1
  refine VO.mv ?_
  refine VO.dec (t := 5) rfl (fun hc2 => ?_) (fun hc2 => ?_)
  · -- T
    exact hc2.elim
  · -- F
    refine VO.gy rfl ⟨_, rfl, rfl⟩ (.mv rfl) ?_
    refine VO.gy rfl ⟨_, rfl, rfl⟩ (.nilp rfl) ?_
    refine VO.gy rfl ⟨_, rfl, rfl⟩ (.fa rfl tst55 rfl) ?_
    obtain ⟨q3_E, q3_A2, q3_c2, q3_n0, q3_n2, _, q3_S, q3_0, q3_2⟩ := openP_runRuns (x0 := (gd_, D_)) (x1 := br_) (x2 := l_) w1_0
    dsimp only at q3_0
    have q3_r2 := q3_2.rm
    refine VO.inv _ (fun _ h => h.parts (i := 1) rfl q3_S [106, 104, 105]) ?_
    refine VO.gy rfl ⟨_, rfl, rfl⟩ (.ld1 106 rfl tk47 rfl (cellsAt_one rfl rfl)) ?_
    refine VO.gy rfl ⟨_, rfl, rfl⟩ (.lenS rfl tsl47) ?_
    refine VO.gy rfl ⟨_, rfl, rfl⟩ (.eql rfl rfl) ?_
    refine VO.y rfl (.pF rfl rfl) ?_
    refine VO.clsP 107 [106, 104, 105] rfl (fun hg7 => (mkP_runRuns (gd_, D_) br_ l_ hg7 q3_0 q3_2)) (fun mc7 ho7 => ?_)
    refine VO.k3 0 2 12 ?_
    refine VC.cond rfl (fun hc8 => ?_) (fun hc8 => ?_)
    · -- FT
      refine VC.rs ?_
      refine VO.as ?_
      refine VO.kp [107, 0] [(107, mc7), (0, mout (wm W) (m0))] ?_
      refine VO.k3 0 2 12 ?_
      refine VC.ret ?_
      refine outR ?_
      refine ⟨_, _, res_run (rs := [.tmp 2]) rfl (.tmp rfl .nil), fun W_ hI => out_of (l := [mc7]) hI [107] rfl rfl (mle_refl _) (fun hS_ => ?_)⟩
      dsimp only [packV]
      have hm0_ : (((gd_, D_), br_, l_) : DrunRuns) = ((gd_, D_), br_, l_) := by first | rfl | (simp [*]; done)
      refine ⟨?_, ?_⟩
      rotate_left
      · rw [hm0_]; exact (Ow.up ho7 (hS_.1 _ (.head _)))
      all_goals (first | rfl | (first | exact congrArg (Value.int _) (endR_at ‹l_[_]? = some _› (by omega)).symm | exact congrArg (Value.int _) (endR_nil (by omega)).symm | exact congrArg (Value.int _) (endR_nil (not_not_intro (by assumption))).symm))
    · -- FF
      refine VC.skip ?_
      refine outN ?_
      refine VC.seq ?_
      obtain ⟨q9_E, q9_A2, q9_c2, q9_n0, q9_n2, _, q9_S, q9_0, q9_2⟩ := openP_runRuns (x0 := (gd_, D_)) (x1 := br_) (x2 := l_) ho7
      dsimp only at q9_0
      have q9_r2 := q9_2.rm
      refine VC.inv _ (fun _ h => h.parts (i := 107) rfl q9_S [112, 110, 111]) ?_
      refine VC.regD _ 10 [(0, true), (1, true), (2, true), (3, true), (4, true), (5, true), (6, true), (7, true), (8, true), (9, true)] follows (by kernel_rfl) (fun _ h => h.sub [112, 110, 111, 0]) ?_
      refine VD.y rfl rfl (.inl rfl) (.mv rfl) ?_
      refine VD.y rfl rfl (.inl rfl) (.nilp rfl) ?_
      refine VD.y rfl rfl (.inl rfl) (.fa rfl tst55 rfl) ?_
      refine VD.y rfl rfl (.inl rfl) (.ld1 112 rfl tk47 rfl (cellsAt_one rfl rfl)) ?_
      refine VD.y rfl rfl (.inl rfl) (.mv rfl) ?_
      refine VD.y rfl rfl (.inl rfl) (.nilp rfl) ?_
      refine VD.y rfl rfl (.inl rfl) (.fa rfl tst55 rfl) ?_
      refine VD.y rfl rfl (.inl rfl) (.ld1 112 rfl tk47 rfl (cellsAt_one rfl rfl)) ?_
      refine VD.y rfl rfl (.inl rfl) (.lenS rfl tsl47) ?_
      refine VD.y rfl rfl (.inl rfl) (.sub rfl rfl rfl ⟨bd, bd⟩) ?_
      refine VD.nil rfl ?_ rfl
      obtain ⟨x13, hx13⟩ : ∃ z_, (l_)[(((l_.length : Nat) : Int) - 1).toNat]? = some z_ := ⟨_, List.getElem?_eq_getElem bd⟩
      obtain ⟨gg13, oo13, ec13, ea13, hce13, hre13⟩ := (Ow.rd q9_2 (mle_refl _)).elem hx13
      cases ea13
      obtain ⟨q13_A2, q13_c2, rfl, q13_0, q13_1, q13_2⟩ := open_Run (x0 := x13.1) (x1 := x13.2.1) (x2 := x13.2.2) hre13
      simp only [inK] at q13_0
      simp only [inK] at q13_1
      have q13_r2 := Rd.room q13_2
      refine VO.y rfl (.ixI ((((l_.length : Nat) : Int) - 1).toNat) rfl rfl tsl47 bd bd) ?_
      refine VO.y rfl (.fa rfl tst32 rfl) ?_
      refine VO.y rfl (.ld1 111 rfl tk3 rfl (hce13.at1 (j := 1) rfl)) ?_
      refine VO.as ?_
      refine VO.clsP 114 [112, 110, 111] rfl (fun hg14 => (mkP_runRuns (gd_, D_) br_ l_ hg14 q9_0 q9_2)) (fun mc14 ho14 => ?_)
      refine VO.kp [114, 0] [(114, mc14), (0, mout (wm W) (m0))] ?_
      refine VO.k3 0 2 12 ?_
      refine outN ?_
      refine VC.ret ?_
      refine ⟨_, _, res_run (rs := [.tmp 2]) rfl (.tmp rfl .nil), fun W_ hI => out_of (l := [mc14]) hI [114] rfl rfl (mle_refl _) (fun hS_ => ?_)⟩
      dsimp only [packV]
      have hm0_ : (((gd_, D_), br_, l_) : DrunRuns) = ((gd_, D_), br_, l_) := by first | rfl | (simp [*]; done)
      refine ⟨?_, ?_⟩
      rotate_left
      · rw [hm0_]; exact (Ow.up ho14 (hS_.1 _ (.head _)))
      all_goals (first | rfl | (first | exact congrArg (Value.int _) (endR_at ‹l_[_]? = some _› (by omega)).symm | exact congrArg (Value.int _) (endR_nil (by omega)).symm | exact congrArg (Value.int _) (endR_nil (not_not_intro (by assumption))).symm))
theorem uCopied_ok (W : World) {v0 : List Value} {d0 : DRun} (h0 : Rd TRun (wm W) v0 d0) (e0 : d0.2.2.length ≤ 3518437208800) : CallR Try.prog 45 [.agg v0.toArray] W (mnil) (fun v m' => ∃ (s0 : List Value), v = .agg s0.toArray ∧ Ow TRun m' s0 (d0)) := by
  obtain ⟨p0_A2, p0_c2, rfl, p0_0, p0_1, p0_2⟩ := open_Run (x0 := d0.1) (x1 := d0.2.1) (x2 := d0.2.2) h0
  simp only [inK] at p0_0
  simp only [inK] at p0_1
  have p0_r2 := Rd.room p0_2
  refine CallR.ofA (n := 8) Try.func45 rfl rfl rfl ?_
  refine VC.rs ?_
  refine VO.box (cs := [Value.int .i64 (d0.1), Value.int .i64 (d0.2.1), Value.slice p0_A2 (d0.2.2.length) (p0_c2)]) 102 rfl rfl rfl (fun g1 => ?_)
  refine VO.alloc 104 rfl tz32 (fun g3 => ?_)
  refine VO.k3 0 1 2 ?_
  refine VC.rs ?_
  refine VO.y rfl (.fa rfl tst32 rfl) ?_
  refine VO.y rfl (.ld1 102 rfl tk30 rfl (cellsAt_one rfl rfl)) ?_
  refine VO.callN 105 rfl fnOk77 rfl (fun W hW => clone_ok W (Rd.mono p0_2 (hW.at (i := 0) rfl)) bd) (fun v5 m5 hv5 => ?_)
  obtain ⟨s5_0, rfl, f5_0⟩ := hv5
  obtain ⟨A5_0, c5_0, eq5_0, l5_0, k5_0⟩ := f5_0.slice
  subst eq5_0
  simp only [maxLen] at k5_0
  refine VO.y rfl (.fa rfl tst32 rfl) ?_
  refine VO.store (k := 1) (c' := [Value.int .i64 (d0.1), Value.int .i64 (d0.2.1), Value.slice A5_0 (d0.2.2.length) (c5_0)]) 102 rfl rfl (.inr ⟨tk30, rfl⟩) rfl rfl rfl rfl rfl ?_
  refine VO.k3 0 1 2 ?_
  refine VC.rs ?_
  refine VO.y rfl (.ldA 102 rfl tk32 rfl (cellsAt_one rfl rfl)) ?_
  refine VO.store (k := 3) (c' := [Value.int .i64 (d0.1), Value.int .i64 (d0.2.1), Value.slice A5_0 (d0.2.2.length) (c5_0)]) 104 rfl rfl (.inl tk32) rfl rfl rfl rfl rfl ?_
  refine VO.kp [105, 104, 102, 0] [(105, m5), (104, mone g3 (.cells [Value.int .i64 (d0.1), Value.int .i64 (d0.2.1), Value.slice A5_0 (d0.2.2.length) (c5_0)].toArray 32 (0, 0))), (102, mone g1 (.cells [Value.int .i64 (d0.1), Value.int .i64 (d0.2.1), Value.slice A5_0 (d0.2.2.length) (c5_0)].toArray 32 (0, 0))), (0, wm W)] ?_
  refine VO.k3 0 1 2 ?_
  refine VC.ret ?_
  refine ⟨_, _, res_run (rs := [.cell 2 32]) rfl (.agg 104 rfl tk32 rfl ⟨_, _, _, mone_self _ _, Nat.le_of_ble_eq_true rfl, rfl⟩ .nil), fun W_ hI => out_of (l := [m5]) hI [105] rfl rfl (mle_refl _) (fun hS_ => ?_)⟩
  dsimp only [packV]
  have he0 : (d0 : Ty.Den TRun) = d0 := by first | rfl | (simp [*]; done)
  refine ⟨[Value.int .i64 (d0.1), Value.int .i64 (d0.2.1), Value.slice A5_0 (d0.2.2.length) (c5_0)], ?_, ?_⟩
  rotate_left
  · rw [he0]; exact (show Ow TRun _ _ d0 from (mkO_Run d0.1 d0.2.1 d0.2.2 hS_ bdk bdk (OwnL.ow (Ow.ownl f5_0 rfl mnil) rfl)))
  all_goals (first | rfl | (simp [*]; done))
theorem fin0_uFlush_ok {P : Prop} (h : P := by first | (rw [flush_off (.inl (by assumption))] <;> first | rfl | done) | (rw [flush_off (.inr (by assumption))] <;> first | rfl | done) | (rw [flush_enc (by rintro (q_ | q_) <;> first | exact absurd (q_.symm.trans ‹br_ = false›) (by decide) | exact q_ (by assumption) | exact absurd q_ (by assumption) | simp_all) (by assumption)] <;> first | rfl | done) | (rw [flush_order (by rintro (q_ | q_) <;> first | exact absurd (q_.symm.trans ‹br_ = false›) (by decide) | exact q_ (by assumption) | exact absurd q_ (by assumption) | simp_all) (by assumption) (by assumption)] <;> first | rfl | done) | (rw [flush_write (by rintro (q_ | q_) <;> first | exact absurd (q_.symm.trans ‹br_ = false›) (by decide) | exact q_ (by assumption) | exact absurd q_ (by assumption) | simp_all) (by assumption) (by assumption) (by assumption)] <;> first | rfl | done) | (rw [flush_sync (by rintro (q_ | q_) <;> first | exact absurd (q_.symm.trans ‹br_ = false›) (by decide) | exact q_ (by assumption) | exact absurd q_ (by assumption) | simp_all) (by assumption) (by assumption) (by assumption) (by assumption)] <;> first | rfl | done) | (rw [flush_good (by rintro (q_ | q_) <;> first | exact absurd (q_.symm.trans ‹br_ = false›) (by decide) | exact q_ (by assumption) | exact absurd q_ (by assumption) | simp_all) (by assumption) (by assumption) (by assumption) (by assumption)] <;> first | rfl | done)) : P := h
theorem fin1_uFlush_ok {P : Prop} (h : P := by first | omega | (simp only [List.length_append, List.length_nil, List.length_cons, List.length_take, List.length_drop] at *; omega) | (have h_ := runCheck_ok (enc_zero ‹¬ ¬ (runEncode d1).2 = 0›).1; omega) | (have h_ := enc_flen ‹¬ ¬ (runEncode d1).2 = 0›; omega) | (have h_ := write_rng D_ 2 (fAppend [] (runEncode d1).1).1; omega)) : P := h
set_option maxHeartbeats 4000000 in
theorem uFlush_ok (W : World) {l_ : List DRun} {br_ : Bool} {D_ : DdiskDisk} {gd_ : Nat} {m0 : Mem} (hm : mle (m0) (wm W)) {g0 : Nat} (h0 : Ow (.ptr TrunRuns) m0 [.pointer (some ⟨g0, 0, none⟩)] (g0, ((gd_, D_), br_, l_))) {v1 : List Value} {d1 : DRun} (h1 : Rd TRun (mout (wm W) (m0)) v1 d1) (e0 : okD D_) (e1 : wD D_ + 200000 ≤ 1000000000000) (e2 : okU l_) : CallR Try.prog 11 [.pointer (some ⟨g0, 0, none⟩), .agg v1.toArray] W (m0) (fun v m' => v = .int .i64 ((uFlush D_ br_ l_ d1).2) ∧ Ow (.ptr TrunRuns) m' [.pointer (some ⟨g0, 0, none⟩)] (g0, ((gd_, (uFlush D_ br_ l_ d1).1.1), (uFlush D_ br_ l_ d1).1.2))) := by
  have hll := okU_len e2
  obtain ⟨p1_A2, p1_c2, rfl, p1_0, p1_1, p1_2⟩ := open_Run (x0 := d1.1) (x1 := d1.2.1) (x2 := d1.2.2) h1
  simp only [inK] at p1_0
  simp only [inK] at p1_1
  have p1_r2 := Rd.room p1_2
  refine CallR.ofB (n := 76) hm Try.func11 rfl rfl rfl ?_
  refine VC.rs ?_
  refine VO.box (cs := [Value.int .i64 (d1.1), Value.int .i64 (d1.2.1), Value.slice p1_A2 (d1.2.2.length) (p1_c2)]) 102 rfl rfl rfl (fun g1 => ?_)
  refine VO.as ?_
  refine VO.k4 0 1 3 4 ?_
  refine VC.seq ?_
  refine VC.rs ?_
  refine VO.mv ?_
  refine VO.call 1 rfl fnOk42 rfl rfl (fun W hW => uNone_ok W (hW.at (i := 1) rfl) h0) (fun v3 m3 hv3 => ?_)
  try dsimp only at hv3
  obtain ⟨rfl, w3_0⟩ := hv3
  refine VO.k5 0 1 3 4 9 ?_
  refine VC.cond rfl (fun hc4 => ?_) (fun hc4 => ?_)
  · -- T
    exact hc4.elim
  · -- F
    refine VC.skip ?_
    refine outN ?_
    refine VC.seq ?_
    refine VC.rs ?_
    refine VO.mv ?_
    refine VO.y rfl (.nilp rfl) ?_
    refine VO.y rfl (.fa rfl tst55 rfl) ?_
    obtain ⟨q5_E, q5_A2, q5_c2, q5_n0, q5_n2, _, q5_S, q5_0, q5_2⟩ := openP_runRuns (x0 := (gd_, D_)) (x1 := br_) (x2 := l_) w3_0
    dsimp only at q5_0
    have q5_r2 := q5_2.rm
    refine VO.inv _ (fun _ h => h.parts (i := 1) rfl q5_S [108, 106, 107]) ?_
    refine VO.y rfl (.ld1 108 rfl tk4 rfl (cellsAt_one rfl rfl)) ?_
    refine VO.mv ?_
    refine VO.decB (t := 14) rfl (fun hc9 => ?_) (fun hc9 => ?_)
    · -- FT
      refine VO.gN ?_
      refine VO.gN ?_
      refine VO.gN ?_
      refine VO.gN ?_
      refine VO.gN ?_
      refine VO.gN ?_
      refine VO.y rfl (.pT rfl rfl) ?_
      refine VO.clsP 110 [108, 106, 107] rfl (fun hg10 => (mkP_runRuns (gd_, D_) br_ l_ hg10 q5_0 q5_2)) (fun mc10 ho10 => ?_)
      refine VO.kp [110, 102, 0] [(110, mc10), (102, mone g1 (.cells [Value.int .i64 (d1.1), Value.int .i64 (d1.2.1), Value.slice p1_A2 (d1.2.2.length) (p1_c2)].toArray 32 (0, 0))), (0, mout (wm W) (m0))] ?_
      refine VO.k6 0 1 3 4 9 21 ?_
      refine VC.condT rfl ?_
      refine VC.rs ?_
      refine VO.mv ?_
      refine VO.y rfl (.nilp rfl) ?_
      refine VO.y rfl (.fa rfl tst55 rfl) ?_
      obtain ⟨q11_E, q11_A2, q11_c2, q11_n0, q11_n2, _, q11_S, q11_0, q11_2⟩ := openP_runRuns (x0 := (gd_, D_)) (x1 := br_) (x2 := l_) ho10
      dsimp only at q11_0
      have q11_r2 := q11_2.rm
      refine VO.inv _ (fun _ h => h.parts (i := 110) rfl q11_S [114, 112, 113]) ?_
      refine VO.store (k := 1) (c' := [Value.pointer (some ⟨gd_, 0, none⟩), Value.bool true, Value.slice q11_A2 (l_.length) (q11_c2)]) 114 rfl rfl (.inr ⟨tk4, rfl⟩) rfl rfl rfl rfl rfl ?_
      refine VO.clsP 115 [114, 112, 113] rfl (fun hg15 => (mkP_runRuns (gd_, D_) true l_ hg15 q11_0 q11_2)) (fun mc15 ho15 => ?_)
      refine VO.k6 0 1 3 4 9 21 ?_
      refine VC.rs ?_
      refine VO.as ?_
      refine VO.k6 0 1 3 4 9 21 ?_
      refine VC.ret ?_
      refine outR ?_
      refine ⟨_, _, res_run (rs := [.tmp 4]) rfl (.tmp rfl .nil), fun W_ hI => out_of (l := [mc15]) hI [115] rfl rfl (mle_refl _) (fun hS_ => ?_)⟩
      dsimp only [packV]
      have hm0_ : (((gd_, (uFlush D_ br_ l_ d1).1.1), (uFlush D_ br_ l_ d1).1.2) : DrunRuns) = ((gd_, D_), true, l_) := by first | rfl | (exact fin0_uFlush_ok)
      refine ⟨?_, ?_⟩
      rotate_left
      · rw [hm0_]; exact (Ow.up ho15 (hS_.1 _ (.head _)))
      all_goals (first | rfl | (exact fin0_uFlush_ok))
    · -- FF
      refine VO.gy rfl ⟨_, rfl, rfl⟩ (.mv rfl) ?_
      refine VO.gy rfl ⟨_, rfl, rfl⟩ (.nilp rfl) ?_
      refine VO.gy rfl ⟨_, rfl, rfl⟩ (.fa rfl tst55 rfl) ?_
      refine VO.gy rfl ⟨_, rfl, rfl⟩ (.ld1 108 rfl tk27 rfl (cellsAt_one rfl rfl)) ?_
      refine VO.gcall 106 rfl ⟨_, rfl, rfl⟩ fnOk32 rfl rfl (fun W hW => dOn_ok W (hW.at (i := 106) rfl) q5_0) (fun v16 m16 hv16 => ?_)
      obtain ⟨rfl, w16_0⟩ := hv16
      refine VO.gy rfl ⟨_, rfl, rfl⟩ (.notD rfl) ?_
      refine VO.y rfl (.pF rfl rfl) ?_
      refine VO.clsP 117 [108, 106, 107] rfl (fun hg17 => (mkP_runRuns (gd_, D_) br_ l_ hg17 w16_0 q5_2)) (fun mc17 ho17 => ?_)
      refine VO.kp [117, 102, 0] [(117, mc17), (102, mone g1 (.cells [Value.int .i64 (d1.1), Value.int .i64 (d1.2.1), Value.slice p1_A2 (d1.2.2.length) (p1_c2)].toArray 32 (0, 0))), (0, mout (wm W) (m0))] ?_
      refine VO.k6 0 1 3 4 9 21 ?_
      refine VC.cond rfl (fun hc18 => ?_) (fun hc18 => ?_)
      · -- FFT
        refine VC.rs ?_
        refine VO.mv ?_
        refine VO.y rfl (.nilp rfl) ?_
        refine VO.y rfl (.fa rfl tst55 rfl) ?_
        obtain ⟨q19_E, q19_A2, q19_c2, q19_n0, q19_n2, _, q19_S, q19_0, q19_2⟩ := openP_runRuns (x0 := (gd_, D_)) (x1 := br_) (x2 := l_) ho17
        dsimp only at q19_0
        have q19_r2 := q19_2.rm
        refine VO.inv _ (fun _ h => h.parts (i := 117) rfl q19_S [122, 120, 121]) ?_
        refine VO.store (k := 1) (c' := [Value.pointer (some ⟨gd_, 0, none⟩), Value.bool true, Value.slice q19_A2 (l_.length) (q19_c2)]) 122 rfl rfl (.inr ⟨tk4, rfl⟩) rfl rfl rfl rfl rfl ?_
        refine VO.clsP 123 [122, 120, 121] rfl (fun hg23 => (mkP_runRuns (gd_, D_) true l_ hg23 q19_0 q19_2)) (fun mc23 ho23 => ?_)
        refine VO.k6 0 1 3 4 9 21 ?_
        refine VC.rs ?_
        refine VO.as ?_
        refine VO.k6 0 1 3 4 9 21 ?_
        refine VC.ret ?_
        refine outR ?_
        refine ⟨_, _, res_run (rs := [.tmp 4]) rfl (.tmp rfl .nil), fun W_ hI => out_of (l := [mc23]) hI [123] rfl rfl (mle_refl _) (fun hS_ => ?_)⟩
        dsimp only [packV]
        have hm0_ : (((gd_, (uFlush D_ br_ l_ d1).1.1), (uFlush D_ br_ l_ d1).1.2) : DrunRuns) = ((gd_, D_), true, l_) := by first | rfl | (exact fin0_uFlush_ok)
        refine ⟨?_, ?_⟩
        rotate_left
        · rw [hm0_]; exact (Ow.up ho23 (hS_.1 _ (.head _)))
        all_goals (first | rfl | (exact fin0_uFlush_ok))
      · -- FFF
        refine VC.skip ?_
        refine outN ?_
        refine VC.rs ?_
        refine VO.y rfl (.ldA 102 rfl tk32 rfl (cellsAt_one rfl rfl)) ?_
        refine VO.callN 124 rfl fnOk17 rfl (fun W hW => runEncode_ok W (Rd.mono h1 (hW.at (i := 0) rfl))) (fun v24 m24 hv24 => ?_)
        obtain ⟨s24_0, rfl, f24_0⟩ := hv24
        have hfa25 := runEncode_len d1
        obtain ⟨A24_0, c24_0, eq24_0, l24_0, k24_0⟩ := f24_0.slice
        subst eq24_0
        simp only [maxLen] at k24_0
        refine VO.mv ?_
        refine VO.y rfl (.ext rfl rfl) ?_
        refine VO.y rfl (.ext rfl rfl) ?_
        refine VO.as ?_
        refine VO.as ?_
        refine VO.k8 0 1 3 4 5 6 9 21 ?_
        refine VC.seq ?_
        refine VC.rs ?_
        refine VO.mv ?_
        refine VO.y rfl (.neq rfl rfl) ?_
        refine VO.k9 0 1 3 4 5 6 9 21 31 ?_
        refine VC.cond rfl (fun hc26 => ?_) (fun hc26 => ?_)
        · -- FFFT
          refine VC.rs ?_
          refine VO.mv ?_
          refine VO.as ?_
          refine VO.kp [124, 117, 102, 0] [(124, m24), (117, mc17), (102, mone g1 (.cells [Value.int .i64 (d1.1), Value.int .i64 (d1.2.1), Value.slice p1_A2 (d1.2.2.length) (p1_c2)].toArray 32 (0, 0))), (0, mout (wm W) (m0))] ?_
          refine VO.k9 0 1 3 4 5 6 9 21 31 ?_
          refine VC.ret ?_
          refine outR ?_
          refine ⟨_, _, res_run (rs := [.tmp 4]) rfl (.tmp rfl .nil), fun W_ hI => out_of (l := [mc17]) hI [117] rfl rfl (mle_refl _) (fun hS_ => ?_)⟩
          dsimp only [packV]
          have hm0_ : (((gd_, (uFlush D_ br_ l_ d1).1.1), (uFlush D_ br_ l_ d1).1.2) : DrunRuns) = ((gd_, D_), br_, l_) := by first | rfl | (exact fin0_uFlush_ok)
          refine ⟨?_, ?_⟩
          rotate_left
          · rw [hm0_]; exact (Ow.up ho17 (hS_.1 _ (.head _)))
          all_goals (first | rfl | (exact fin0_uFlush_ok))
        · -- FFFF
          refine VC.skip ?_
          refine outN ?_
          refine VC.seq ?_
          refine VC.seq ?_
          refine VC.regD _ 5 [(0, true), (1, true), (2, true), (3, false), (4, true)] follows (by kernel_rfl) (fun _ h => h.sub [124, 102, 0]) ?_
          refine VD.y rfl rfl (.inl rfl) (.fa rfl tst32 rfl) ?_
          refine VD.y rfl rfl (.inl rfl) (.ld1 102 rfl tk3 rfl (cellsAt_one rfl rfl)) ?_
          refine VD.y rfl rfl (.inl rfl) (.mv rfl) ?_
          refine VD.call 117 rfl rfl (.inl rfl) fnOk28 rfl rfl (fun _ _ h => h.sub [124, 102, 0]) (fun W hW => uEnd_ok W (hW.at (i := 117) rfl) ho17 (by assumption)) (fun v27 m27 hv27 => ?_)
          try dsimp only at hv27
          obtain ⟨rfl, w27_0⟩ := hv27
          refine VD.y rfl rfl (.inl rfl) (.add rfl rfl rfl ⟨by exact fin1_uFlush_ok, by exact fin1_uFlush_ok⟩) ?_
          refine VD.nil rfl ?_ rfl
          refine VO.y rfl (.neq rfl rfl) ?_
          refine VO.kp [117, 124, 102, 0] [(117, m27), (124, m24), (102, mone g1 (.cells [Value.int .i64 (d1.1), Value.int .i64 (d1.2.1), Value.slice p1_A2 (d1.2.2.length) (p1_c2)].toArray 32 (0, 0))), (0, mout (wm W) (m0))] ?_
          refine VO.k10 0 1 3 4 5 6 9 21 31 38 ?_
          refine outN ?_
          refine VC.cond rfl (fun hc28 => ?_) (fun hc28 => ?_)
          · -- FFFFT
            refine VC.rs ?_
            refine VO.as ?_
            refine VO.k10 0 1 3 4 5 6 9 21 31 38 ?_
            refine VC.ret ?_
            refine outR ?_
            refine ⟨_, _, res_run (rs := [.tmp 4]) rfl (.tmp rfl .nil), fun W_ hI => out_of (l := [m27]) hI [117] rfl rfl (mle_refl _) (fun hS_ => ?_)⟩
            dsimp only [packV]
            have hm0_ : (((gd_, (uFlush D_ br_ l_ d1).1.1), (uFlush D_ br_ l_ d1).1.2) : DrunRuns) = ((gd_, D_), br_, l_) := by first | rfl | (exact fin0_uFlush_ok)
            refine ⟨?_, ?_⟩
            rotate_left
            · rw [hm0_]; exact (Ow.up w27_0 (hS_.1 _ (.head _)))
            all_goals (first | rfl | (exact fin0_uFlush_ok))
          · -- FFFFF
            refine VC.skip ?_
            refine outN ?_
            refine VC.rs ?_
            refine VO.mv ?_
            refine VO.callN 129 rfl fnOk43 rfl (fun W hW => fAppend_ok W (Rd.nil _ _ none 0 (Nat.zero_le _)) (OwnL.rd (Ow.ownl f24_0 rfl mnil) (hW.at (i := 124) rfl) (mle_nil _)) (by exact fin1_uFlush_ok)) (fun v29 m29 hv29 => ?_)
            obtain ⟨s29_0, rfl, f29_0⟩ := hv29
            have hfa30 := fAppend_len [] ((runEncode d1).1)
            have hfa31 := fAppend_range [] ((runEncode d1).1)
            obtain ⟨A29_0, c29_0, eq29_0, l29_0, k29_0⟩ := f29_0.slice
            subst eq29_0
            simp only [maxLen] at k29_0
            refine VO.mv ?_
            refine VO.y rfl (.ext rfl rfl) ?_
            refine VO.y rfl (.ext rfl rfl) ?_
            refine VO.as ?_
            refine VO.as ?_
            refine VO.k11 0 1 3 4 5 6 7 9 21 31 38 ?_
            refine VC.seq ?_
            refine VC.rs ?_
            refine VO.mv ?_
            refine VO.y rfl (.eql rfl rfl) ?_
            refine VO.k12 0 1 3 4 5 6 7 9 21 31 38 45 ?_
            refine VC.cond rfl (fun hc32 => ?_) (fun hc32 => ?_)
            · -- FFFFFT
              refine VC.reg ?_
              refine VO.mv ?_
              refine VO.y rfl (.nilp rfl) ?_
              refine VO.y rfl (.fa rfl tst55 rfl) ?_
              obtain ⟨q33_E, q33_A2, q33_c2, q33_n0, q33_n2, _, q33_S, q33_0, q33_2⟩ := openP_runRuns (x0 := (gd_, D_)) (x1 := br_) (x2 := l_) w27_0
              dsimp only at q33_0
              have q33_r2 := q33_2.rm
              refine VO.inv _ (fun _ h => h.parts (i := 117) rfl q33_S [136, 134, 135]) ?_
              refine VO.y rfl (.ld1 136 rfl tk27 rfl (cellsAt_one rfl rfl)) ?_
              refine VO.mv ?_
              refine VO.call 134 rfl fnOk44 rfl rfl (fun W hW => dWrite_ok W (hW.at (i := 134) rfl) q33_0 2 (by simp only [inK]; (exact fin1_uFlush_ok)) (OwnL.rd (Ow.ownl f29_0 rfl mnil) (hW.out (i := 134) (j := 129) rfl rfl) (mle_nil _)) (by assumption) (by exact fin1_uFlush_ok)) (fun v37 m37 hv37 => ?_)
              obtain ⟨rfl, w37_0⟩ := hv37
              have hfa38 := (write_ok (f := 2) (b := ((fAppend [] ((runEncode d1).1)).1)) (show okD D_ by assumption))
              have hfa39 := (write_w (f := 2) (b := ((fAppend [] ((runEncode d1).1)).1)) (show okD D_ by assumption))
              refine VO.as ?_
              refine VO.clsP 140 [136, 134, 135] rfl (fun hg40 => (mkP_runRuns (gd_, (dWrite D_ 2 ((fAppend [] ((runEncode d1).1)).1)).1) br_ l_ hg40 w37_0 q33_2)) (fun mc40 ho40 => ?_)
              refine VO.kp [140, 129, 124, 102, 0] [(140, mc40), (129, m29), (124, m24), (102, mone g1 (.cells [Value.int .i64 (d1.1), Value.int .i64 (d1.2.1), Value.slice p1_A2 (d1.2.2.length) (p1_c2)].toArray 32 (0, 0))), (0, mout (wm W) (m0))] ?_
              refine VO.k12 0 1 3 4 5 6 7 9 21 31 38 45 ?_
              refine outN ?_
              refine VC.seq ?_
              refine VC.rs ?_
              refine VO.mv ?_
              refine VO.y rfl (.eql rfl rfl) ?_
              refine VO.k13 0 1 3 4 5 6 7 9 21 31 38 45 53 ?_
              refine VC.cond rfl (fun hc41 => ?_) (fun hc41 => ?_)
              · -- FFFFFTT
                refine VC.reg ?_
                refine VO.mv ?_
                refine VO.y rfl (.nilp rfl) ?_
                refine VO.y rfl (.fa rfl tst55 rfl) ?_
                obtain ⟨q42_E, q42_A2, q42_c2, q42_n0, q42_n2, _, q42_S, q42_0, q42_2⟩ := openP_runRuns (x0 := (gd_, (dWrite D_ 2 ((fAppend [] ((runEncode d1).1)).1)).1)) (x1 := br_) (x2 := l_) ho40
                dsimp only at q42_0
                have q42_r2 := q42_2.rm
                refine VO.inv _ (fun _ h => h.parts (i := 140) rfl q42_S [145, 143, 144]) ?_
                refine VO.y rfl (.ld1 145 rfl tk27 rfl (cellsAt_one rfl rfl)) ?_
                refine VO.call 143 rfl fnOk41 rfl rfl (fun W hW => dSync_ok W (hW.at (i := 143) rfl) q42_0 (by assumption) (by exact fin1_uFlush_ok)) (fun v46 m46 hv46 => ?_)
                obtain ⟨rfl, w46_0⟩ := hv46
                have hfa47 := (sync_ok (show okD ((dWrite D_ 2 ((fAppend [] ((runEncode d1).1)).1)).1) by assumption))
                have hfa48 := (sync_w (show okD ((dWrite D_ 2 ((fAppend [] ((runEncode d1).1)).1)).1) by assumption))
                refine VO.as ?_
                refine VO.clsP 149 [145, 143, 144] rfl (fun hg49 => (mkP_runRuns (gd_, (dSync ((dWrite D_ 2 ((fAppend [] ((runEncode d1).1)).1)).1)).1) br_ l_ hg49 w46_0 q42_2)) (fun mc49 ho49 => ?_)
                refine VO.k13 0 1 3 4 5 6 7 9 21 31 38 45 53 ?_
                refine outN ?_
                refine VC.seq ?_
                refine VC.rs ?_
                refine VO.mv ?_
                refine VO.y rfl (.neq rfl rfl) ?_
                refine VO.kp [149, 129, 124, 102, 0] [(149, mc49), (129, m29), (124, m24), (102, mone g1 (.cells [Value.int .i64 (d1.1), Value.int .i64 (d1.2.1), Value.slice p1_A2 (d1.2.2.length) (p1_c2)].toArray 32 (0, 0))), (0, mout (wm W) (m0))] ?_
                refine VO.k14 0 1 3 4 5 6 7 9 21 31 38 45 53 60 ?_
                refine VC.cond rfl (fun hc50 => ?_) (fun hc50 => ?_)
                · -- FFFFFTTT
                  refine VC.rs ?_
                  refine VO.mv ?_
                  refine VO.y rfl (.nilp rfl) ?_
                  refine VO.y rfl (.fa rfl tst55 rfl) ?_
                  obtain ⟨q51_E, q51_A2, q51_c2, q51_n0, q51_n2, _, q51_S, q51_0, q51_2⟩ := openP_runRuns (x0 := (gd_, (dSync ((dWrite D_ 2 ((fAppend [] ((runEncode d1).1)).1)).1)).1)) (x1 := br_) (x2 := l_) ho49
                  dsimp only at q51_0
                  have q51_r2 := q51_2.rm
                  refine VO.inv _ (fun _ h => h.parts (i := 149) rfl q51_S [154, 152, 153]) ?_
                  refine VO.store (k := 1) (c' := [Value.pointer (some ⟨gd_, 0, none⟩), Value.bool true, Value.slice q51_A2 (l_.length) (q51_c2)]) 154 rfl rfl (.inr ⟨tk4, rfl⟩) rfl rfl rfl rfl rfl ?_
                  refine VO.clsP 155 [154, 152, 153] rfl (fun hg55 => (mkP_runRuns (gd_, (dSync ((dWrite D_ 2 ((fAppend [] ((runEncode d1).1)).1)).1)).1) true l_ hg55 q51_0 q51_2)) (fun mc55 ho55 => ?_)
                  refine VO.k14 0 1 3 4 5 6 7 9 21 31 38 45 53 60 ?_
                  refine VC.rs ?_
                  refine VO.mv ?_
                  refine VO.as ?_
                  refine VO.k14 0 1 3 4 5 6 7 9 21 31 38 45 53 60 ?_
                  refine VC.ret ?_
                  refine outR ?_
                  refine ⟨_, _, res_run (rs := [.tmp 4]) rfl (.tmp rfl .nil), fun W_ hI => out_of (l := [mc55]) hI [155] rfl rfl (mle_refl _) (fun hS_ => ?_)⟩
                  dsimp only [packV]
                  have hm0_ : (((gd_, (uFlush D_ br_ l_ d1).1.1), (uFlush D_ br_ l_ d1).1.2) : DrunRuns) = ((gd_, (dSync ((dWrite D_ 2 ((fAppend [] ((runEncode d1).1)).1)).1)).1), true, l_) := by first | rfl | (exact fin0_uFlush_ok)
                  refine ⟨?_, ?_⟩
                  rotate_left
                  · rw [hm0_]; exact (Ow.up ho55 (hS_.1 _ (.head _)))
                  all_goals (first | rfl | (exact fin0_uFlush_ok))
                · -- FFFFFTTF
                  refine VC.skip ?_
                  refine outN ?_
                  refine VC.seq ?_
                  obtain ⟨q56_E, q56_A2, q56_c2, q56_n0, q56_n2, _, q56_S, q56_0, q56_2⟩ := openP_runRuns (x0 := (gd_, (dSync ((dWrite D_ 2 ((fAppend [] ((runEncode d1).1)).1)).1)).1)) (x1 := br_) (x2 := l_) ho49
                  dsimp only at q56_0
                  have q56_r2 := q56_2.rm
                  refine VC.inv _ (fun _ h => h.parts (i := 149) rfl q56_S [159, 157, 158]) ?_
                  refine VC.regD _ 9 [(0, true), (1, true), (2, true), (3, true), (4, true), (5, true), (6, false), (7, false), (8, false)] follows (by kernel_rfl) (fun _ h => h.sub [159, 157, 129, 124, 102, 0]) ?_
                  refine VD.y rfl rfl (.inl rfl) (.mv rfl) ?_
                  refine VD.y rfl rfl (.inl rfl) (.mv rfl) ?_
                  refine VD.y rfl rfl (.inl rfl) (.nilp rfl) ?_
                  refine VD.y rfl rfl (.inl rfl) (.fa rfl tst55 rfl) ?_
                  refine VD.y rfl rfl (.inl rfl) (.ld1 159 rfl tk47 rfl (cellsAt_one rfl rfl)) ?_
                  refine VD.y rfl rfl (.inl rfl) (.ldA 102 rfl tk32 rfl (cellsAt_one rfl rfl)) ?_
                  refine VD.callN 160 rfl rfl (.inl rfl) fnOk45 rfl (fun _ h => h.sub [159, 157, 129, 124, 102, 0]) (fun W hW => uCopied_ok W (Rd.mono h1 (hW.at (i := 0) rfl)) (by exact fin1_uFlush_ok)) (fun v60 m60 hv60 => ?_)
                  obtain ⟨s60_0, rfl, f60_0⟩ := hv60
                  obtain ⟨q60_0_A2, q60_0_c2, q60_0_n2, rfl, q60_0_S, q60_0_0, q60_0_1, q60_0_2⟩ := openO_Run (x0 := d1.1) (x1 := d1.2.1) (x2 := d1.2.2) f60_0
                  simp only [inK] at q60_0_0
                  simp only [inK] at q60_0_1
                  have q60_0_r2 := q60_0_2.rm
                  refine VD.inv _ (fun _ h => h.parts (i := 160) rfl q60_0_S [161]) ?_
                  refine VD.bsl (cs := [Value.int .i64 (d1.1), Value.int .i64 (d1.2.1), Value.slice q60_0_A2 (d1.2.2.length) (q60_0_c2)]) 163 rfl rfl rfl tsl47 tz32 rfl rfl (fun _ h => h.sub [159, 157, 129, 124, 102, 0]) (fun g62 => ?_)
                  refine VD.appO (e := TRun) 158 161 163 rfl rfl rfl rfl tsl47 tz32 rfl rfl rfl rfl q56_2 (show Ow TRun _ _ d1 from (mkO_Run d1.1 d1.2.1 d1.2.2 (Seps.one (mle_refl _)) (by simp only [inK]; (exact fin1_uFlush_ok)) (by simp only [inK]; (exact fin1_uFlush_ok)) (OwnL.ow (Ow.ownl q60_0_2 rfl mnil) rfl))) Try.underlying47 (cellsAt_one rfl rfl) (by simp only [maxLen]; (exact fin1_uFlush_ok)) (by exact fin1_uFlush_ok) (by decide) (fun _ _ h => h.sub [159, 157, 129, 124, 102, 0]) (fun v64 m64 ho64 => ?_)
                  obtain ⟨A64, c64, rfl, l64, k64⟩ := ho64.slice
                  simp only [maxLen] at k64
                  refine VD.nil rfl ?_ rfl
                  refine VO.y rfl (.nilp rfl) ?_
                  refine VO.y rfl (.fa rfl tst55 rfl) ?_
                  refine VO.store (k := 1) (c' := [Value.pointer (some ⟨gd_, 0, none⟩), Value.bool br_, Value.slice A64 ((l_ ++ [d1]).length) (c64)]) 159 rfl rfl (.inr ⟨tk47, rfl⟩) rfl rfl rfl rfl rfl ?_
                  refine VO.clsP 165 [159, 157, 158] rfl (fun hg65 => (mkP_runRuns (gd_, (dSync ((dWrite D_ 2 ((fAppend [] ((runEncode d1).1)).1)).1)).1) br_ (l_ ++ [d1]) hg65 q56_0 ho64)) (fun mc65 ho65 => ?_)
                  refine VO.k14 0 1 3 4 5 6 7 9 21 31 38 45 53 60 ?_
                  refine outN ?_
                  refine VC.rs ?_
                  refine VO.as ?_
                  refine VO.k14 0 1 3 4 5 6 7 9 21 31 38 45 53 60 ?_
                  refine VC.ret ?_
                  refine ⟨_, _, res_run (rs := [.tmp 4]) rfl (.tmp rfl .nil), fun W_ hI => out_of (l := [mc65]) hI [165] rfl rfl (mle_refl _) (fun hS_ => ?_)⟩
                  dsimp only [packV]
                  have hm0_ : (((gd_, (uFlush D_ br_ l_ d1).1.1), (uFlush D_ br_ l_ d1).1.2) : DrunRuns) = ((gd_, (dSync ((dWrite D_ 2 ((fAppend [] ((runEncode d1).1)).1)).1)).1), br_, l_ ++ [d1]) := by first | rfl | (exact fin0_uFlush_ok)
                  refine ⟨?_, ?_⟩
                  rotate_left
                  · rw [hm0_]; exact (Ow.up ho65 (hS_.1 _ (.head _)))
                  all_goals (first | rfl | (exact fin0_uFlush_ok))
              · -- FFFFFTF
                refine VC.skip ?_
                refine outN ?_
                refine VC.seq ?_
                refine VC.rs ?_
                refine VO.mv ?_
                refine VO.y rfl (.neq rfl rfl) ?_
                refine VO.k14 0 1 3 4 5 6 7 9 21 31 38 45 53 60 ?_
                refine VC.condKT rfl (decide_eq_true hc41) ?_
                refine VC.rs ?_
                refine VO.mv ?_
                refine VO.y rfl (.nilp rfl) ?_
                refine VO.y rfl (.fa rfl tst55 rfl) ?_
                obtain ⟨q66_E, q66_A2, q66_c2, q66_n0, q66_n2, _, q66_S, q66_0, q66_2⟩ := openP_runRuns (x0 := (gd_, (dWrite D_ 2 ((fAppend [] ((runEncode d1).1)).1)).1)) (x1 := br_) (x2 := l_) ho40
                dsimp only at q66_0
                have q66_r2 := q66_2.rm
                refine VO.inv _ (fun _ h => h.parts (i := 140) rfl q66_S [169, 167, 168]) ?_
                refine VO.store (k := 1) (c' := [Value.pointer (some ⟨gd_, 0, none⟩), Value.bool true, Value.slice q66_A2 (l_.length) (q66_c2)]) 169 rfl rfl (.inr ⟨tk4, rfl⟩) rfl rfl rfl rfl rfl ?_
                refine VO.clsP 170 [169, 167, 168] rfl (fun hg70 => (mkP_runRuns (gd_, (dWrite D_ 2 ((fAppend [] ((runEncode d1).1)).1)).1) true l_ hg70 q66_0 q66_2)) (fun mc70 ho70 => ?_)
                refine VO.kp [170, 129, 124, 102, 0] [(170, mc70), (129, m29), (124, m24), (102, mone g1 (.cells [Value.int .i64 (d1.1), Value.int .i64 (d1.2.1), Value.slice p1_A2 (d1.2.2.length) (p1_c2)].toArray 32 (0, 0))), (0, mout (wm W) (m0))] ?_
                refine VO.k14 0 1 3 4 5 6 7 9 21 31 38 45 53 60 ?_
                refine VC.rs ?_
                refine VO.mv ?_
                refine VO.as ?_
                refine VO.k14 0 1 3 4 5 6 7 9 21 31 38 45 53 60 ?_
                refine VC.ret ?_
                refine outR ?_
                refine ⟨_, _, res_run (rs := [.tmp 4]) rfl (.tmp rfl .nil), fun W_ hI => out_of (l := [mc70]) hI [170] rfl rfl (mle_refl _) (fun hS_ => ?_)⟩
                dsimp only [packV]
                have hm0_ : (((gd_, (uFlush D_ br_ l_ d1).1.1), (uFlush D_ br_ l_ d1).1.2) : DrunRuns) = ((gd_, (dWrite D_ 2 ((fAppend [] ((runEncode d1).1)).1)).1), true, l_) := by first | rfl | (exact fin0_uFlush_ok)
                refine ⟨?_, ?_⟩
                rotate_left
                · rw [hm0_]; exact (Ow.up ho70 (hS_.1 _ (.head _)))
                all_goals (first | rfl | (exact fin0_uFlush_ok))
            · -- FFFFFF
              exact absurd (by rw [enc_frame (by assumption)]) hc32
theorem uOpenY_ok (W : World) {m0 : Mem} (hm : mle (m0) (wm W)) {g0 : Nat} {d0 : DdiskDisk} (h0 : Ow (.ptr TdiskDisk) m0 [.pointer (some ⟨g0, 0, none⟩)] (g0, d0)) (e0 : okD d0) (e1 : wD d0 + 200000 ≤ 1000000000000) (e2 : (uOpen d0).2 = 0) : CallR Try.prog 9 [.pointer (some ⟨g0, 0, none⟩)] W (m0) (fun v m' => ∃ (s0 : Nat), v = .tuple #[.pointer (some ⟨s0, 0, none⟩), .int .i64 (0)] ∧ Ow (.ptr TrunRuns) m' [.pointer (some ⟨s0, 0, none⟩)] (s0, ((g0, (uOpen d0).1), false, (runF (dRead d0 2).1).1))) := by
  refine CallR.ofB (n := 42) hm Try.func9 rfl rfl rfl ?_
  refine VC.rs ?_
  refine VO.as ?_
  refine VO.as ?_
  refine VO.k3 0 2 3 ?_
  refine VC.rs ?_
  refine VO.mv ?_
  refine VO.call 1 rfl fnOk38 rfl rfl (fun W hW => dRead_ok W (hW.at (i := 1) rfl) h0 2 bdk (by assumption) bd) (fun v1 m1 hv1 => ?_)
  obtain ⟨s1_0, p1_0, p1_1, rfl, hS1, f1_0, w1_0⟩ := hv1
  refine VO.inv _ (fun _ h => h.parts (i := 1) rfl hS1 [102, 103]) ?_
  have hfa4 := (read_size d0 2)
  obtain ⟨A1_0, c1_0, eq1_0, l1_0, k1_0⟩ := f1_0.slice
  subst eq1_0
  simp only [maxLen] at k1_0
  refine VO.mv ?_
  refine VO.y rfl (.ext rfl rfl) ?_
  refine VO.y rfl (.ext rfl rfl) ?_
  refine VO.as ?_
  refine VO.as ?_
  refine VO.k5 0 2 3 4 5 ?_
  refine VC.seq ?_
  refine VC.rs ?_
  refine VO.mv ?_
  refine VO.y rfl (.neq rfl rfl) ?_
  refine VO.kp [102, 103, 0] [(102, p1_0), (103, p1_1), (0, mout (wm W) (m0))] ?_
  refine VO.k6 0 2 3 4 5 16 ?_
  refine VC.cond rfl (fun hc5 => ?_) (fun hc5 => ?_)
  · -- T
    rw [uopen_bad hc5] at e2; exact absurd e2 hc5
  · -- F
    refine VC.skip ?_
    refine outN ?_
    refine VC.rs ?_
    refine VO.mv ?_
    refine VO.callN 106 rfl fnOk39 rfl (fun W hW => uScan_ok W (OwnL.rd (Ow.ownl f1_0 rfl mnil) (hW.at (i := 102) rfl) (mle_nil _)) bd) (fun v6 m6 hv6 => ?_)
    obtain ⟨s6_0, rfl, f6_0⟩ := hv6
    have hfa7 := runF_bounds ((dRead d0 2).1)
    obtain ⟨A6_0, c6_0, eq6_0, l6_0, k6_0⟩ := f6_0.slice
    subst eq6_0
    simp only [maxLen] at k6_0
    refine VO.mv ?_
    refine VO.y rfl (.ext rfl rfl) ?_
    refine VO.y rfl (.ext rfl rfl) ?_
    refine VO.as ?_
    refine VO.as ?_
    refine VO.k8 0 2 3 4 5 6 7 16 ?_
    refine VC.seq ?_
    refine VC.rs ?_
    refine VO.mv ?_
    refine VO.mv ?_
    refine VO.y rfl (.lenS rfl tsl38) ?_
    refine VO.y rfl (.lss rfl rfl) ?_
    refine VO.k9 0 2 3 4 5 6 7 16 26 ?_
    refine VC.cond rfl (fun hc8 => ?_) (fun hc8 => ?_)
    · -- FT
      refine VC.seq ?_
      refine VC.rs ?_
      refine VO.mv ?_
      refine VO.mv ?_
      refine VO.call 103 rfl fnOk40 rfl rfl (fun W hW => dCut_ok W (hW.at (i := 103) rfl) w1_0 2 bdk ((runF ((dRead d0 2).1)).2) bdk (by assumption) bd) (fun v9 m9 hv9 => ?_)
      obtain ⟨rfl, w9_0⟩ := hv9
      have hfa10 := (cut_ok (f := 2) (n := ((runF ((dRead d0 2).1)).2)) (show okD d0 by assumption))
      have hfa11 := (cut_w (f := 2) (n := ((runF ((dRead d0 2).1)).2)) (show okD d0 by assumption))
      refine VO.as ?_
      refine VO.kp [103, 106, 102, 0] [(103, m9), (106, m6), (102, p1_0), (0, mout (wm W) (m0))] ?_
      refine VO.k10 0 2 3 4 5 6 7 8 16 26 ?_
      refine VC.rs ?_
      refine VO.mv ?_
      refine VO.y rfl (.neq rfl rfl) ?_
      refine VO.k11 0 2 3 4 5 6 7 8 16 26 31 ?_
      refine VC.cond rfl (fun hc12 => ?_) (fun hc12 => ?_)
      · -- FTT
        rw [uopen_cutbad (by assumption) (by assumption) hc12] at e2; exact absurd e2 hc12
      · -- FTF
        refine VC.skip ?_
        refine outN ?_
        refine VC.rs ?_
        refine VO.mv ?_
        refine VO.call 103 rfl fnOk41 rfl rfl (fun W hW => dSync_ok W (hW.at (i := 103) rfl) w9_0 (by assumption) bd) (fun v13 m13 hv13 => ?_)
        obtain ⟨rfl, w13_0⟩ := hv13
        have hfa14 := (sync_ok (show okD ((dCut d0 2 ((runF ((dRead d0 2).1)).2)).1) by assumption))
        have hfa15 := (sync_w (show okD ((dCut d0 2 ((runF ((dRead d0 2).1)).2)).1) by assumption))
        refine VO.as ?_
        refine VO.k12 0 2 3 4 5 6 7 8 9 16 26 31 ?_
        refine VC.rs ?_
        refine VO.mv ?_
        refine VO.y rfl (.neq rfl rfl) ?_
        refine VO.kp [103, 106, 102, 0] [(103, m13), (106, m6), (102, p1_0), (0, mout (wm W) (m0))] ?_
        refine VO.k13 0 2 3 4 5 6 7 8 9 16 26 31 36 ?_
        refine VC.cond rfl (fun hc16 => ?_) (fun hc16 => ?_)
        · -- FTFT
          rw [uopen_sync (by assumption) (by assumption) (by assumption)] at e2; exact absurd e2 hc16
        · -- FTFF
          refine VC.skip ?_
          refine outN ?_
          refine VC.rs ?_
          refine VO.mv ?_
          refine VO.mv ?_
          refine VO.y rfl (.bst (cs := [Value.pointer (some ⟨g0, 0, none⟩), Value.bool false, Value.slice A6_0 (((runF ((dRead d0 2).1)).1).length) (c6_0)]) rfl tst55 tz55 rfl) ?_
          refine VO.box (cs := [Value.pointer (some ⟨g0, 0, none⟩), Value.bool false, Value.slice A6_0 (((runF ((dRead d0 2).1)).1).length) (c6_0)]) 118 rfl rfl rfl (fun g17 => ?_)
          refine VO.as ?_
          refine VO.as ?_
          refine VO.k13 0 2 3 4 5 6 7 8 9 16 26 31 36 ?_
          refine VC.ret ?_
          refine ⟨_, _, res_run (rs := [.tmp 2, .tmp 3]) rfl (.tmp rfl (.tmp rfl .nil)), fun W_ hI => out_of (l := [mone g17 (.cells [Value.pointer (some ⟨g0, 0, none⟩), Value.bool false, Value.slice A6_0 (((runF ((dRead d0 2).1)).1).length) (c6_0)].toArray 55 (0, 0)), m13, m6]) hI [118, 103, 106] rfl rfl (mle_refl _) (fun hS_ => ?_)⟩
          dsimp only [packV]
          have he0 : (((g0, (uOpen d0).1), false, (runF (dRead d0 2).1).1) : DrunRuns) = ((g0, (dSync ((dCut d0 2 ((runF ((dRead d0 2).1)).2)).1)).1), false, (runF ((dRead d0 2).1)).1) := by first | rfl | (first | (rw [uopen_bad (by assumption)] <;> first | rfl | done) | (rw [uopen_whole (by assumption) (by assumption)] <;> first | rfl | done) | (rw [uopen_cutbad (by assumption) (by assumption) (by assumption)] <;> first | rfl | done) | (rw [uopen_sync (by assumption) (by assumption) (by assumption)] <;> first | rfl | done))
          refine ⟨g17, ?_, ?_⟩
          rotate_left
          · rw [he0]; exact (mkP_runRuns (g0, (dSync ((dCut d0 2 ((runF ((dRead d0 2).1)).2)).1)).1) false ((runF ((dRead d0 2).1)).1) hS_ w13_0 f6_0)
          all_goals (first | rfl | (first | (rw [uopen_bad (by assumption)] <;> first | rfl | done) | (rw [uopen_whole (by assumption) (by assumption)] <;> first | rfl | done) | (rw [uopen_cutbad (by assumption) (by assumption) (by assumption)] <;> first | rfl | done) | (rw [uopen_sync (by assumption) (by assumption) (by assumption)] <;> first | rfl | done)))
    · -- FF
      refine VC.skip ?_
      refine outN ?_
      refine VC.rs ?_
      refine VO.mv ?_
      refine VO.mv ?_
      refine VO.y rfl (.bst (cs := [Value.pointer (some ⟨g0, 0, none⟩), Value.bool false, Value.slice A6_0 (((runF ((dRead d0 2).1)).1).length) (c6_0)]) rfl tst55 tz55 rfl) ?_
      refine VO.box (cs := [Value.pointer (some ⟨g0, 0, none⟩), Value.bool false, Value.slice A6_0 (((runF ((dRead d0 2).1)).1).length) (c6_0)]) 120 rfl rfl rfl (fun g19 => ?_)
      refine VO.as ?_
      refine VO.as ?_
      refine VO.kp [120, 106, 102, 103, 0] [(120, mone g19 (.cells [Value.pointer (some ⟨g0, 0, none⟩), Value.bool false, Value.slice A6_0 (((runF ((dRead d0 2).1)).1).length) (c6_0)].toArray 55 (0, 0))), (106, m6), (102, p1_0), (103, p1_1), (0, mout (wm W) (m0))] ?_
      refine VO.k9 0 2 3 4 5 6 7 16 26 ?_
      refine VC.ret ?_
      refine ⟨_, _, res_run (rs := [.tmp 2, .tmp 3]) rfl (.tmp rfl (.tmp rfl .nil)), fun W_ hI => out_of (l := [mone g19 (.cells [Value.pointer (some ⟨g0, 0, none⟩), Value.bool false, Value.slice A6_0 (((runF ((dRead d0 2).1)).1).length) (c6_0)].toArray 55 (0, 0)), p1_1, m6]) hI [120, 103, 106] rfl rfl (mle_refl _) (fun hS_ => ?_)⟩
      dsimp only [packV]
      have he0 : (((g0, (uOpen d0).1), false, (runF (dRead d0 2).1).1) : DrunRuns) = ((g0, d0), false, (runF ((dRead d0 2).1)).1) := by first | rfl | (first | (rw [uopen_bad (by assumption)] <;> first | rfl | done) | (rw [uopen_whole (by assumption) (by assumption)] <;> first | rfl | done) | (rw [uopen_cutbad (by assumption) (by assumption) (by assumption)] <;> first | rfl | done) | (rw [uopen_sync (by assumption) (by assumption) (by assumption)] <;> first | rfl | done))
      refine ⟨g19, ?_, ?_⟩
      rotate_left
      · rw [he0]; exact (mkP_runRuns (g0, d0) false ((runF ((dRead d0 2).1)).1) hS_ w1_0 f6_0)
      all_goals (first | rfl | (first | (rw [uopen_bad (by assumption)] <;> first | rfl | done) | (rw [uopen_whole (by assumption) (by assumption)] <;> first | rfl | done) | (rw [uopen_cutbad (by assumption) (by assumption) (by assumption)] <;> first | rfl | done) | (rw [uopen_sync (by assumption) (by assumption) (by assumption)] <;> first | rfl | done)))
def bwE (mf : Mem) (l : List DRun) (a : Int) (args : List Value) (mr : Mem) : Prop := 0 ≤ a ∧ a < l.length ∧ mr = mnil ∧ ∃ x cs, l[a.toNat]? = some x ∧ args = [.int .i64 a, .agg cs.toArray] ∧ Rd TRun mf cs x
def bwN (a : Int) : Int := a - 1
def bwD (a : Int) : Prop := a < 0
theorem bw1_ok {l : List DRun} {gc : Nat} {v : Value} {mf : Mem} (hl : Rd (.sl TRun) mf [v] l) :
    IterR Try.prog 78 [.pointer (some ⟨gc, 0, none⟩)] mf (mone gc (.cells [v].toArray 47 (0, 0))) (bwE mf l) bwN ((l.length : Int) - 1) bwD := by
  intro G M I X lp W g0 h0 hm hdj hmf hdf hy
  obtain ⟨A, c, rfl, l0, k0⟩ := hl.slice
  simp only [maxLen] at k0
  refine CallR.ofX (n := 19) Try.func78 rfl rfl rfl hm ?_
  refine VX.parts 1 [1, 2] (l := [M g0, mone gc (.cells [(.slice A l.length c : Value)].toArray 47 (0, 0))]) rfl ⟨fun x hx => ?_, List.pairwise_cons.2 ⟨fun x hx => ?_, List.pairwise_singleton _ _⟩⟩ ?_
  · simp only [List.mem_cons, List.not_mem_nil, or_false] at hx
    rcases hx with rfl | rfl
    · exact mle_un_left _ _
    · exact mle_un_right hdj
  · simp only [List.mem_cons, List.not_mem_nil, or_false] at hx
    subst hx; exact hdj
  refine VX.rs ?_
  refine VO.y rfl (.ld1 2 rfl (by kernel_rfl) rfl (cellsAt_one rfl rfl)) ?_
  refine VO.y rfl (.lenS rfl tsl47) ?_
  refine VO.y rfl (.sub (c := (l.length : Int) - 1) rfl rfl rfl ⟨by omega, by omega⟩) ?_
  refine VO.as ?_
  refine VO.k3 0 1 3 ?_
  refine VX.block ?_
  refine VX.loop (G := Int × G) (fun s => [(0, .func (.yield lp) #[] #[]), (1, .pointer (some ⟨gc, 0, none⟩)), (3, .int .i64 s.1)]) (fun s => [(1, M s.2), (2, mone gc (.cells [(.slice A l.length c : Value)].toArray 47 (0, 0))), (0, mout (wm W) (mun (M g0) (mone gc (.cells [(.slice A l.length c : Value)].toArray 47 (0, 0)))))]) (fun s => I s.1 s.2 ∧ -1 ≤ s.1 ∧ s.1 < l.length) (fun s => (s.1 + 1).toNat) ((l.length : Int) - 1, g0) ⟨h0, by dsimp only; omega, by dsimp only; omega⟩ ⟨⟨rfl, rfl, rfl, trivial⟩, fun _ h => h.sub [1, 2, 0]⟩ ?_
  rintro ⟨a, g⟩ ⟨hI, ha, hal⟩
  dsimp only at hI ha hal
  show VX _ _ _ _ _ _ _ [(0, .func (.yield lp) #[] #[]), (1, .pointer (some ⟨gc, 0, none⟩)), (3, .int .i64 a)] [(1, M g), (2, mone gc (.cells [(.slice A l.length c : Value)].toArray 47 (0, 0))), (0, mout (wm W) (mun (M g0) (mone gc (.cells [(.slice A l.length c : Value)].toArray 47 (0, 0)))))]
  refine VX.seq ?_
  refine VX.rs ?_
  refine VO.mv ?_
  refine VO.y rfl (.geq rfl rfl) ?_
  refine VO.k4 0 1 3 8 ?_
  refine VX.cond rfl (fun hc => ?_) (fun hc => ?_)
  · refine VX.skip (outN ?_)
    refine VX.seq (VX.block ?_)
    refine VX.seq ?_
    obtain ⟨x, hx⟩ : ∃ x, l[a.toNat]? = some x := ⟨_, List.getElem?_eq_getElem (by omega)⟩
    obtain ⟨gg, oo, ec, ea, hce, hre⟩ := hl.elem hx
    cases ea
    refine VX.regL _ (hix := ?_) (VL.pre (r := [6, 7]) 6 (by kernel_rfl) ?_)
    · kernel_rfl
    refine VO.mv ?_
    refine VO.mv ?_
    refine VO.y rfl (.ld1 2 rfl (by kernel_rfl) rfl (cellsAt_one rfl rfl)) ?_
    refine VO.mv ?_
    refine VO.y rfl (.ixI a.toNat rfl rfl tsl47 (by omega) (by omega)) ?_
    refine VO.y rfl (.ldA 0 rfl (by kernel_rfl) rfl (hce.mono (mle_out hmf hdf))) ?_
    refine VO.nil ?_
    refine VL.yield 1 rfl rfl (.inl rfl) rfl rfl rfl (fun W' hW => by have h_ := hy a g _ mnil W' hI ⟨hc, hal, rfl, x, ec, hx, rfl, hre⟩ ((hW.nilc 9).sub [0, 1, 9]).three; rw [mun_nil] at h_; exact h_) (fun v m' hv => ?_)
    obtain ⟨g', rfl, hv⟩ := hv
    rcases hv with ⟨rfl, hI'⟩ | ⟨rfl, hX⟩
    · refine VL.post 7 rfl (by kernel_rfl) ?_
      refine VO.y rfl (.not rfl) ?_
      refine VO.k4 0 1 3 18 ?_
      refine outN (VX.condF rfl ?_)
      refine VX.skip (outBN (outN ?_))
      refine VX.reg ?_
      refine VO.mv ?_
      refine VO.y rfl (.sub (c := bwN a) rfl rfl rfl ⟨by unfold bwN; omega, by unfold bwN; omega⟩) ?_
      refine VO.as ?_
      refine VO.nil ?_
      refine outN ⟨rfl, (bwN a, g'), ⟨hI', by unfold bwN; dsimp only; omega, by unfold bwN; dsimp only; omega⟩, by unfold bwN; dsimp only; omega, ⟨⟨rfl, rfl, rfl, trivial⟩, fun _ h => h.sub [1, 2, 0]⟩⟩
    · refine VL.post 7 rfl (by kernel_rfl) ?_
      refine VO.y rfl (.not rfl) ?_
      refine VO.k4 0 1 3 18 ?_
      refine outN (VX.condT rfl ?_)
      refine VX.ret ?_
      refine outBR (outR (outR (outBR ?_)))
      refine ⟨_, _, res_run (rs := []) rfl .nil, fun W_ hI_ => out_of (l := [M g']) hI_ [1] rfl rfl (mle_refl _) (fun hS_ => ⟨g', mun_nil _, .inl hX⟩)⟩
  · refine VX.exit (outE (outE (outBB ?_)))
    refine ⟨_, _, res_run (rs := []) rfl .nil, fun W_ hI_ => out_of (l := [M g]) hI_ [1] rfl rfl (mle_refl _) (fun hS_ => ⟨g, mun_nil _, .inr ⟨a, hI, by unfold bwD; omega⟩⟩)⟩
theorem bw_ok (W : World) {mf : Mem} (hmf : mle mf (wm W)) {v0 : Value} {d0 : List DRun} (h0 : Rd (.sl TRun) mf [v0] d0) : CallR Try.prog 46 [v0] W mnil (fun v m' => ∃ caps, v = .func (.func 78) #[] (List.toArray caps) ∧ IterR Try.prog 78 caps mf m' (bwE mf d0) bwN ((d0.length : Int) - 1) bwD) := by
  obtain ⟨A, c, rfl, _, _⟩ := h0.slice
  refine CallR.ofA (n := 4) Try.func46 rfl rfl rfl ?_
  refine VC.rs ?_
  refine VO.box (cs := [(.slice A d0.length c : Value)]) 101 rfl rfl rfl (fun g1 => ?_)
  refine VO.as ?_
  refine VO.k1 1 ?_
  refine VC.rs ?_
  refine VO.y rfl (.mkf rfl) ?_
  refine VO.as ?_
  refine VO.k1 2 ?_
  refine VC.ret ?_
  refine ⟨_, _, res_run (rs := [.tmp 2]) rfl (.tmp rfl .nil), fun W_ hI => out_of (l := [mone g1 (.cells [(.slice A d0.length c : Value)].toArray 47 (0, 0))]) hI [101] rfl rfl (mle_refl _) (fun hS_ => ⟨[.pointer (some ⟨g1, 0, none⟩)], rfl, ?_⟩)⟩
  show IterR _ _ _ _ (mun _ mnil) _ _ _ _
  rw [mun_nil]
  exact bw1_ok h0
/-- the key at a place of a list of ops -/
def kAt (l : List DOp) (i : Nat) : Bytes := (l[i]?.getD (false, [], [])).2.1
theorem kAt_of {l : List DOp} {i : Nat} {x : DOp} (h : l[i]? = some x) : kAt l i = x.2.1 := by unfold kAt; rw [h]; rfl
def geK (l : List DOp) (k : Bytes) (i : Nat) : Bool := decide (¬ kl (kAt l i) k)
def opAns : Option DOp → Bytes × Bool × Bool
  | some o => (o.2.2, true, o.1)
  | none => ([], false, false)
def findK (l : List DOp) (k : Bytes) : Option DOp := l.find? fun o => decide (o.2.1 = k)
def getRev : List DRun → Bytes → Option DOp
  | [], _ => none
  | r :: l, k => match findK r.2.2 k with
    | some o => some o
    | none => getRev l k
def getR (l : List DRun) (k : Bytes) : Bytes × Bool × Bool := opAns (getRev l.reverse k)
section
variable {l : List DOp} {k : Bytes} {i j : Nat} {x : DOp} {u : List DRun} {r : DRun}
theorem ups_lt {y : DOp} (h : opsUp l) (hx : l[i]? = some x) (hy : l[j]? = some y) (hij : i < j) : kl x.2.1 y.2.1 := by
  obtain ⟨h1, e1⟩ := List.getElem?_eq_some_iff.1 hx
  obtain ⟨h2, e2⟩ := List.getElem?_eq_some_iff.1 hy
  have := List.pairwise_iff_getElem.1 h.2 _ _ h1 h2 hij
  rwa [e1, e2] at this
theorem find_at (h : opsUp l) (hx : l[i]? = some x) (he : x.2.1 = k) : findK l k = some x := by
  unfold findK
  cases hf : l.find? fun o => decide (o.2.1 = k) with
  | none =>
    have := List.find?_eq_none.1 hf x (List.mem_of_getElem? hx)
    rw [he] at this; simp at this
  | some y =>
    have hy := List.find?_some hf
    simp only [decide_eq_true_eq] at hy
    obtain ⟨j, hj⟩ := List.getElem?_of_mem (List.mem_of_find?_eq_some hf)
    rcases Nat.lt_trichotomy i j with q | q | q
    · have := ups_lt h hx hj q; rw [he, hy] at this; exact absurd this (kl_irrefl _)
    · subst q; rw [hx] at hj; exact hj.symm
    · have := ups_lt h hj hx q; rw [he, hy] at this; exact absurd this (kl_irrefl _)
/-- where the search has ended, and the key is not there, it is nowhere -/
theorem find_not (h : opsUp l) (hi : i ≤ l.length) (h1 : i < l.length → geK l k i = true) (h2 : 0 < i → geK l k (i - 1) = false) (hn : ∀ x, l[i]? = some x → ¬ x.2.1 = k) : findK l k = none := by
  unfold findK
  refine List.find?_eq_none.2 fun y hy => ?_
  obtain ⟨j, hj⟩ := List.getElem?_of_mem hy
  have hjl := (List.getElem?_eq_some_iff.1 hj).1
  simp only [decide_eq_true_eq]
  intro e
  rcases Nat.lt_trichotomy j i with q | q | q
  · have h3 := h2 (by omega)
    have h4 : kl (kAt l (i - 1)) k := by unfold geK at h3; simpa using h3
    obtain ⟨z, hz⟩ : ∃ z, l[i - 1]? = some z := ⟨_, List.getElem?_eq_getElem (by omega)⟩
    rw [kAt_of hz] at h4
    rcases Nat.lt_or_ge j (i - 1) with q2 | q2
    · have := kl_trans (ups_lt h hj hz q2) h4; rw [e] at this; exact kl_irrefl _ this
    · have : j = i - 1 := by omega
      subst this; rw [hj] at hz; cases hz; rw [e] at h4; exact kl_irrefl _ h4
  · subst q; exact hn y hj e
  · have h3 := h1 (by omega)
    have h4 : ¬ kl (kAt l i) k := by unfold geK at h3; simpa using h3
    obtain ⟨z, hz⟩ : ∃ z, l[i]? = some z := ⟨_, List.getElem?_eq_getElem (by omega)⟩
    rw [kAt_of hz] at h4
    have := ups_lt h hz hj q; rw [e] at this; exact h4 this
theorem getRev_take {n : Nat} (hx : u[n]? = some r) : getRev (u.take (n + 1)).reverse k = (match findK r.2.2 k with | some o => some o | none => getRev (u.take n).reverse k) := by
  rw [take_one hx, List.reverse_append]; rfl
/-- so far, from the last on: nothing of the key. -/
def getAt (u : List DRun) (k : Bytes) (a : Int) : Prop := -1 ≤ a ∧ a < u.length ∧ getR u k = opAns (getRev (u.take (a + 1).toNat).reverse k)
theorem getAt_0 (u : List DRun) (k : Bytes) : getAt u k ((u.length : Int) - 1) := ⟨by omega, by omega, by
  unfold getR; rw [List.take_of_length_le (by omega)]⟩
theorem getAt_next {a : Int} (h : getAt u k a) (h0 : 0 ≤ a) (hx : u[a.toNat]? = some r) (hf : findK r.2.2 k = none) : getAt u k (a - 1) := by
  refine ⟨by omega, by have := h.2.1; omega, ?_⟩
  rw [h.2.2, show (a + 1).toNat = a.toNat + 1 by omega, getRev_take hx, hf, show (a - 1 + 1).toNat = a.toNat by omega]
theorem getAt_hit {a : Int} {o : DOp} (h : getAt u k a) (h0 : 0 ≤ a) (hx : u[a.toNat]? = some r) (hf : findK r.2.2 k = some o) : getR u k = (o.2.2, true, o.1) := by
  rw [h.2.2, show (a + 1).toNat = a.toNat + 1 by omega, getRev_take hx, hf]; rfl
theorem getAt_end {a : Int} (h : getAt u k a) (ha : a < 0) : getR u k = ([], false, false) := by
  rw [h.2.2, show (a + 1).toNat = 0 by omega]; rfl
end
theorem fnOk46 : fnOk Try.prog 46 = true := by kernel_rfl
theorem fnOk47 : fnOk Try.prog 47 = true := by kernel_rfl
theorem fnOk48 : fnOk Try.prog 48 = true := by kernel_rfl
theorem tz4 : tz Try.prog 4 = some [.bool false] := by kernel_rfl
theorem tz9 : tz Try.prog 9 = some [.string ⟨#[]⟩] := by kernel_rfl
theorem search_ok (W : World) (d0 : Nat) (h0 : d0 < 9223372036854775808) {gf1 : FuncId} {caps1 : List Value} {p1 : Nat → Bool} (hf1 : fnOk Try.prog gf1 = true) (h1 : ∀ W', mle (wm W) (wm W') → ∀ i : Nat, i < d0 → CallR Try.prog gf1 (.int .i64 ((i : Nat) : Int) :: caps1) W' mnil (fun v _ => v = .bool (p1 i))) (e0 : d0 ≤ 4611686018427387903) : CallR Try.prog 47 [.int .i64 (d0 : Int), .func (.func gf1) #[] caps1.toArray] W (mnil) (fun v m' => ∃ (kq : Nat), v = .int .i64 ((kq : Nat) : Int) ∧ kq ≤ d0 ∧ (kq < d0 → p1 kq = true) ∧ (0 < kq → p1 (kq - 1) = false)) := by
  refine CallR.ofA (n := 26) Try.func47 rfl rfl rfl ?_
  refine VC.rs ?_
  refine VO.as ?_
  refine VO.k3 0 1 4 ?_
  refine VC.rs ?_
  refine VO.mv ?_
  refine VO.as ?_
  refine VO.as ?_
  refine VO.k5 0 1 4 5 6 ?_
  refine VC.seq ?_
  refine VC.block ?_
  refine VC.loop (G := Nat × Nat) (fun g => [(5, Value.int .i64 ((((g.1) : Nat) : Int))), (6, Value.int .i64 ((((g.2) : Nat) : Int))), (0, Value.int .i64 (((d0 : Nat) : Int))), (1, Value.func (.func gf1) #[] caps1.toArray), (4, Value.int .i64 (0))]) (fun g => [(0, wm W)]) (fun g => ((g.1) ≤ (g.2)) ∧ ((g.2) ≤ d0) ∧ (0 < (g.1) → p1 ((g.1) - 1) = false) ∧ ((g.2) < d0 → p1 (g.2) = true)) (fun g => (g.2) - (g.1)) (0, d0) (⟨by omega, by omega, by (intro h_; exact absurd h_ (by omega)), by (intro h_; exact absurd h_ (by omega))⟩) ⟨⟨rfl, rfl, rfl, rfl, rfl, trivial⟩, fun _ h => h.sub [0]⟩ ?_
  rintro ⟨i, j⟩ ⟨hij, hj, hp1, hp2⟩
  replace hij : i ≤ j := hij
  replace hj : j ≤ d0 := hj
  replace hp1 : 0 < i → p1 (i - 1) = false := hp1
  replace hp2 : j < d0 → p1 j = true := hp2
  show VC _ _ _ _ _ [(5, Value.int .i64 (((i : Nat) : Int))), (6, Value.int .i64 (((j : Nat) : Int))), (0, Value.int .i64 (((d0 : Nat) : Int))), (1, Value.func (.func gf1) #[] caps1.toArray), (4, Value.int .i64 (0))] [(0, wm W)]
  refine VC.seq ?_
  refine VC.rs ?_
  refine VO.mv ?_
  refine VO.mv ?_
  refine VO.y rfl (.lss rfl rfl) ?_
  refine VO.kp [0] [(0, wm W)] ?_
  refine VO.k6 0 1 4 5 6 11 ?_
  refine VC.cond rfl (fun hc1 => ?_) (fun hc1 => ?_)
  · -- T
    refine VC.skip ?_
    refine outN ?_
    refine VC.block ?_
    refine VC.rs ?_
    refine VO.mv ?_
    refine VO.mv ?_
    refine VO.y rfl (.add (c := ((i + j : Nat) : Int)) rfl rfl (by omega) ⟨bd, bd⟩) ?_
    refine VO.y rfl (.cvI rfl ⟨_, Try.underlying3⟩ Try.underlying119 (IntWalk.u64_in _ bd)) ?_
    refine VO.y rfl (.shf (.inr rfl) rfl rfl (shr1 _)) ?_
    refine VO.y rfl (.cvI rfl ⟨_, Try.underlying119⟩ Try.underlying3 (IntWalk.i64_in _ bd)) ?_
    refine VO.as ?_
    refine VO.k7 0 1 4 5 6 7 11 ?_
    refine VC.rs ?_
    refine VO.mv ?_
    refine VO.mv ?_
    refine VO.callVN 102 rfl rfl hf1 rfl (fun W_ hW_ => h1 W_ (hW_.at (i := 0) rfl) ((i + j) / 2) bd) (fun v2 m2 hv2 => ?_)
    subst hv2
    refine VO.y rfl (.not rfl) ?_
    refine VO.k8 0 1 4 5 6 7 11 21 ?_
    refine VC.condBN rfl (fun hc3 => ?_) (fun hc3 => ?_)
    · -- TT
      refine VC.reg ?_
      refine VO.mv ?_
      refine VO.y rfl (.add (c := ((((i + j) / 2) + 1 : Nat) : Int)) rfl rfl (by omega) ⟨bd, bd⟩) ?_
      refine VO.as ?_
      refine VO.kp [0] [(0, wm W)] ?_
      refine VO.k8 0 1 4 5 6 7 11 21 ?_
      refine outBN ?_
      exact outN ⟨⟨((i + j) / 2) + 1, j⟩, ⟨by omega, by omega, by first | exact hp1 | (intro _; rw [show (i + j) / 2 + 1 - 1 = (i + j) / 2 by omega]; assumption), by first | exact hp2 | (intro _; assumption)⟩, bd, ⟨⟨rfl, rfl, rfl, rfl, rfl, trivial⟩, fun _ h => Inv.sub h [0]⟩⟩
    · -- TF
      refine VC.reg ?_
      refine VO.mv ?_
      refine VO.as ?_
      refine VO.kp [0] [(0, wm W)] ?_
      refine VO.k8 0 1 4 5 6 7 11 21 ?_
      refine outBN ?_
      exact outN ⟨⟨i, (i + j) / 2⟩, ⟨by omega, by omega, by first | exact hp1 | (intro _; rw [show (i + j) / 2 + 1 - 1 = (i + j) / 2 by omega]; assumption), by first | exact hp2 | (intro _; assumption)⟩, bd, ⟨⟨rfl, rfl, rfl, rfl, rfl, trivial⟩, fun _ h => Inv.sub h [0]⟩⟩
  · -- F
    refine VC.exit ?_
    refine outE ?_
    refine outE ?_
    refine outBB ?_
    refine outN ?_
    refine VC.rs ?_
    refine VO.mv ?_
    refine VO.as ?_
    refine VO.k6 0 1 4 5 6 11 ?_
    refine VC.ret ?_
    refine ⟨_, _, res_run (rs := [.tmp 4]) rfl (.tmp rfl .nil), fun W_ hI => out_of (l := []) hI [] rfl rfl (mle_refl _) (fun hS_ => ?_)⟩
    dsimp only [packV]
    refine ⟨i, ?_, ?_, ?_, ?_⟩
    rotate_left
    · (omega)
    · ((intro h_; have e_ : i = j := (by omega); subst e_; exact hp2 h_))
    · (exact hp1)
    all_goals (first | rfl | (simp [*]; done))
theorem get1_ok (W : World) (d0 : Nat) (h0 : d0 < 9223372036854775808) {g1 : Nat} {E1 : TypeId} {v1 : List Value} {d1 : DRun} (h1 : Rd TRun (wm W) v1 d1) (b1 : mle (mone g1 (.cells v1.toArray E1 (0, 0))) (wm W)) {g2 : Nat} {E2 : TypeId} {v2 : List Value} {d2 : List UInt8} (h2 : Rd .str (wm W) v2 d2) (b2 : mle (mone g2 (.cells v2.toArray E2 (0, 0))) (wm W)) (e0 : d0 < d1.2.2.length) : CallR Try.prog 48 [.int .i64 (d0 : Int), .pointer (some ⟨g1, 0, none⟩), .pointer (some ⟨g2, 0, none⟩)] W (mnil) (fun v m' => v = .bool (geK d1.2.2 d2 d0)) := by
  obtain ⟨p1_A2, p1_c2, rfl, p1_0, p1_1, p1_2⟩ := open_Run (x0 := d1.1) (x1 := d1.2.1) (x2 := d1.2.2) h1
  simp only [inK] at p1_0
  simp only [inK] at p1_1
  have p1_r2 := Rd.room p1_2
  have hceb1 : cellsAt (wm W) g1 0 3 [Value.int .i64 (d1.1), Value.int .i64 (d1.2.1), Value.slice p1_A2 (d1.2.2.length) (p1_c2)] := (cellsAt_one rfl rfl).mono b1
  obtain ⟨rfl, _⟩ := h2
  have hceb2 : cellsAt (wm W) g2 0 1 [str (d2)] := (cellsAt_one rfl rfl).mono b2
  refine CallR.ofA (n := 13) Try.func48 rfl rfl rfl ?_
  refine VC.rs ?_
  refine VO.as ?_
  refine VO.k4 0 1 2 4 ?_
  refine VC.seq ?_
  refine VC.regD _ 7 [(0, true), (1, true), (2, true), (3, true), (4, true), (5, true), (6, true)] follows (by kernel_rfl) (fun _ h => h.sub [0]) ?_
  refine VD.y rfl rfl (.inl rfl) (.fa rfl tst32 rfl) ?_
  refine VD.y rfl rfl (.inl rfl) (.ld1 0 rfl tk30 rfl (hceb1.at1 (j := 2) rfl)) ?_
  refine VD.y rfl rfl (.inl rfl) (.mv rfl) ?_
  obtain ⟨x1, hx1⟩ : ∃ z_, (d1.2.2)[d0]? = some z_ := ⟨_, List.getElem?_eq_getElem bd⟩
  obtain ⟨gg1, oo1, ec1, ea1, hce1, hre1⟩ := p1_2.elem hx1
  cases ea1
  obtain ⟨rfl, q1_1, q1_2⟩ := open_Op (x0 := x1.1) (x1 := x1.2.1) (x2 := x1.2.2) hre1
  simp only [maxLen] at q1_1
  simp only [maxLen] at q1_2
  refine VD.y rfl rfl (.inl rfl) (.ixI d0 rfl rfl tsl30 rfl bd) ?_
  refine VD.y rfl rfl (.inl rfl) (.fa rfl tst35 rfl) ?_
  refine VD.y rfl rfl (.inl rfl) (.ld1 0 rfl tk9 rfl (hce1.at1 (j := 1) rfl)) ?_
  refine VD.y rfl rfl (.inl rfl) (.ld1 0 rfl tk9 rfl hceb2) ?_
  refine VD.nil rfl ?_ rfl
  refine VO.y rfl (.sgeq rfl rfl) ?_
  refine VO.as ?_
  refine VO.k4 0 1 2 4 ?_
  refine outN ?_
  refine VC.ret ?_
  refine ⟨_, _, res_run (rs := [.tmp 4]) rfl (.tmp rfl .nil), fun W_ hI => out_of (l := []) hI [] rfl rfl (mle_refl _) (fun hS_ => ?_)⟩
  dsimp only [packV]
  all_goals (first | rfl | (exact congrArg Value.bool (by unfold geK; rw [kAt_of ‹d1.2.2[d0]? = some _›])))
theorem uNoneB_ok (W : World) {g0 : Nat} {E0 : TypeId} {d0 : DrunRuns0} {b0_2 : Value} (hm : mle (mone g0 (.cells [(.pointer (d0.1.map fun g => ⟨g, 0, none⟩) : Value), .bool d0.2.1, b0_2].toArray E0 (0, 0))) (wm W)) (h0_2 : Rd (.sl TRun) (mout (wm W) (mone g0 (.cells [(.pointer (d0.1.map fun g => ⟨g, 0, none⟩) : Value), .bool d0.2.1, b0_2].toArray E0 (0, 0)))) [b0_2] d0.2.2) : CallR Try.prog 42 [.pointer (some ⟨g0, 0, none⟩)] W (mone g0 (.cells [(.pointer (d0.1.map fun g => ⟨g, 0, none⟩) : Value), .bool d0.2.1, b0_2].toArray E0 (0, 0))) (fun v m' => v = .bool (decide (d0.1 = none)) ∧ m' = mone g0 (.cells [(.pointer (d0.1.map fun g => ⟨g, 0, none⟩) : Value), .bool d0.2.1, b0_2].toArray E0 (0, 0))) := by
  obtain ⟨A0_2, c0_2, rfl, l0_2, k0_2⟩ := h0_2.slice
  simp only [maxLen] at k0_2
  refine CallR.ofB (n := 12) hm Try.func42 rfl rfl rfl ?_
  refine VC.rs ?_
  refine VO.as ?_
  refine VO.k2 0 2 ?_
  refine VC.rs ?_
  refine VO.mv ?_
  refine VO.y rfl (.pnil rfl rfl Try.underlying23 rfl) ?_
  refine VO.mv ?_
  refine VO.gy rfl ⟨_, rfl, rfl⟩ (.mv rfl) ?_
  refine VO.gy rfl ⟨_, rfl, rfl⟩ (.nilp rfl) ?_
  refine VO.gy rfl ⟨_, rfl, rfl⟩ (.fa rfl tst55 rfl) ?_
  refine VO.gy rfl ⟨_, rfl, rfl⟩ (.ld1 1 rfl tk27 rfl (cellsAt_one rfl rfl)) ?_
  refine VO.gy rfl ⟨_, rfl, rfl⟩ (.pnilO rfl rfl Try.underlying27) ?_
  refine VO.y rfl (.pF rfl rfl) ?_
  refine VO.as ?_
  refine VO.k2 0 2 ?_
  refine VC.ret ?_
  refine ⟨_, _, res_run (rs := [.tmp 2]) rfl (.tmp rfl .nil), fun W_ hI => out_of (l := [mone g0 (.cells [Value.pointer ((d0.1).map fun g => ⟨g, 0, none⟩), Value.bool d0.2.1, Value.slice A0_2 (d0.2.2.length) (c0_2)].toArray E0 (0, 0))]) hI [1] rfl rfl (mle_refl _) (fun hS_ => ?_)⟩
  dsimp only [packV]
  refine ⟨?_, ?_⟩
  rotate_left
  · rw [muns_one]
  all_goals (first | rfl | (simp [*]; done))
set_option maxHeartbeats 4000000 in
theorem uGet_ok (W : World) {g0 : Nat} {E0 : TypeId} {d0 : DrunRuns0} {b0_2 : Value} (hm : mle (mone g0 (.cells [(.pointer (d0.1.map fun g => ⟨g, 0, none⟩) : Value), .bool d0.2.1, b0_2].toArray E0 (0, 0))) (wm W)) (h0_2 : Rd (.sl TRun) (mout (wm W) (mone g0 (.cells [(.pointer (d0.1.map fun g => ⟨g, 0, none⟩) : Value), .bool d0.2.1, b0_2].toArray E0 (0, 0)))) [b0_2] d0.2.2) (d1 : List UInt8) (h1 : d1.length ≤ maxLen) (e0 : okU d0.2.2) (e1 : ¬ d0.1 = none) : CallR Try.prog 13 [.pointer (some ⟨g0, 0, none⟩), str d1] W (mone g0 (.cells [(.pointer (d0.1.map fun g => ⟨g, 0, none⟩) : Value), .bool d0.2.1, b0_2].toArray E0 (0, 0))) (fun v m' => v = .tuple #[str ((getR d0.2.2 d1).1), .bool ((getR d0.2.2 d1).2.1), .bool ((getR d0.2.2 d1).2.2)] ∧ m' = mone g0 (.cells [(.pointer (d0.1.map fun g => ⟨g, 0, none⟩) : Value), .bool d0.2.1, b0_2].toArray E0 (0, 0))) := by
  have hll := okU_len e0
  obtain ⟨A0_2, c0_2, rfl, l0_2, k0_2⟩ := h0_2.slice
  simp only [maxLen] at k0_2
  have h1' := h1; simp only [maxLen] at h1'
  refine CallR.ofX (n := 51) Try.func13 rfl rfl rfl hm ?_
  refine VX.rs ?_
  refine VO.box (cs := [str (d1)]) 102 rfl rfl rfl (fun g1 => ?_)
  refine VO.alloc 104 rfl tz9 (fun g3 => ?_)
  refine VO.alloc 106 rfl tz4 (fun g5 => ?_)
  refine VO.alloc 108 rfl tz4 (fun g7 => ?_)
  refine VO.k6 0 1 3 4 5 6 ?_
  refine VX.seq ?_
  refine VX.rs ?_
  refine VO.mv ?_
  refine VO.call 1 rfl fnOk42 rfl rfl (fun W hW => uNoneB_ok W (d0 := d0) (hW.at (i := 1) rfl) (Rd.mono h0_2 (hW.out (i := 1) (j := 0) rfl rfl))) (fun v9 m9 hv9 => ?_)
  obtain ⟨rfl, rfl⟩ := hv9
  refine VO.k7 0 1 3 4 5 6 11 ?_
  refine VX.cond rfl (fun hc10 => ?_) (fun hc10 => ?_)
  · -- T
    exact (e1 hc10).elim
  · -- F
    refine VX.skip ?_
    refine outN ?_
    refine VX.seq ?_
    refine VX.rs ?_
    refine VO.mv ?_
    refine VO.y rfl (.nilp rfl) ?_
    refine VO.y rfl (.fa rfl tst55 rfl) ?_
    refine VO.y rfl (.ld1 1 rfl tk47 rfl (cellsAt_one rfl rfl)) ?_
    refine VO.callN 111 rfl fnOk46 rfl (fun W_ hW_ => bw_ok W_ (mf := mout (wm W) (mone g0 (.cells [Value.pointer ((d0.1).map fun g => ⟨g, 0, none⟩), Value.bool d0.2.1, Value.slice A0_2 (d0.2.2.length) (c0_2)].toArray E0 (0, 0)))) (hW_.at (i := 0) rfl) h0_2) (fun v11 m11 hv11 => ?_)
    obtain ⟨ca11, rfl, hit11⟩ := hv11
    refine VO.kp [111, 1, 108, 106, 104, 102, 0] [(111, m11), (1, mone g0 (.cells [Value.pointer ((d0.1).map fun g => ⟨g, 0, none⟩), Value.bool d0.2.1, Value.slice A0_2 (d0.2.2.length) (c0_2)].toArray E0 (0, 0))), (108, mone g7 (.cells [Value.bool false].toArray 4 (0, 0))), (106, mone g5 (.cells [Value.bool false].toArray 4 (0, 0))), (104, mone g3 (.cells [str ([])].toArray 9 (0, 0))), (102, mone g1 (.cells [str (d1)].toArray 9 (0, 0))), (0, mout (wm W) (mone g0 (.cells [Value.pointer ((d0.1).map fun g => ⟨g, 0, none⟩), Value.bool d0.2.1, Value.slice A0_2 (d0.2.2.length) (c0_2)].toArray E0 (0, 0))))] ?_
    refine VO.k8 0 1 3 4 5 6 11 16 ?_
    refine VX.block ?_
    refine VX.gather (l := [mone g7 (.cells [Value.bool false].toArray 4 (0, 0)), mone g5 (.cells [Value.bool false].toArray 4 (0, 0)), mone g3 (.cells [str ([])].toArray 9 (0, 0))]) 113 [108, 106, 104] rfl (fun hg12 => ?_)
    refine VX.inv [(111, m11), (113, muns [mone g7 (.cells [Value.bool false].toArray 4 (0, 0)), mone g5 (.cells [Value.bool false].toArray 4 (0, 0)), mone g3 (.cells [str ([])].toArray 9 (0, 0))]), (1, mone g0 (.cells [Value.pointer ((d0.1).map fun g => ⟨g, 0, none⟩), Value.bool d0.2.1, Value.slice A0_2 (d0.2.2.length) (c0_2)].toArray E0 (0, 0))), (102, mone g1 (.cells [str (d1)].toArray 9 (0, 0))), (0, mout (wm W) (mone g0 (.cells [Value.pointer ((d0.1).map fun g => ⟨g, 0, none⟩), Value.bool d0.2.1, Value.slice A0_2 (d0.2.2.length) (c0_2)].toArray E0 (0, 0))))] (fun _ h => h.sub [111, 113, 1, 102, 0]) ?_
    refine VX.rangeR (A := Int) (G := (List UInt8) × Bool × Bool) (rest := [(1, mone g0 (.cells [Value.pointer ((d0.1).map fun g => ⟨g, 0, none⟩), Value.bool d0.2.1, Value.slice A0_2 (d0.2.2.length) (c0_2)].toArray E0 (0, 0))), (102, mone g1 (.cells [str (d1)].toArray 9 (0, 0))), (0, mout (wm W) (mone g0 (.cells [Value.pointer ((d0.1).map fun g => ⟨g, 0, none⟩), Value.bool d0.2.1, Value.slice A0_2 (d0.2.2.length) (c0_2)].toArray E0 (0, 0))))]) 113 111 114 115 116 117 (fun g => muns [mone g7 (.cells [Value.bool (g.2.2)].toArray 4 (0, 0)), mone g5 (.cells [Value.bool (g.2.1)].toArray 4 (0, 0)), mone g3 (.cells [str ((g.1))].toArray 9 (0, 0))]) (fun at_ g => (getAt d0.2.2 d1 at_) ∧ (Seps (muns [mone g7 (.cells [Value.bool (g.2.2)].toArray 4 (0, 0)), mone g5 (.cells [Value.bool (g.2.1)].toArray 4 (0, 0)), mone g3 (.cells [str ((g.1))].toArray 9 (0, 0))]) [mone g7 (.cells [Value.bool (g.2.2)].toArray 4 (0, 0)), mone g5 (.cells [Value.bool (g.2.1)].toArray 4 (0, 0)), mone g3 (.cells [str ((g.1))].toArray 9 (0, 0))])) (fun e g => e = .ret ∧ (getR d0.2.2 d1 = ((g.1), (g.2.1), (g.2.2))) ∧ (Seps (muns [mone g7 (.cells [Value.bool (g.2.2)].toArray 4 (0, 0)), mone g5 (.cells [Value.bool (g.2.1)].toArray 4 (0, 0)), mone g3 (.cells [str ((g.1))].toArray 9 (0, 0))]) [mone g7 (.cells [Value.bool (g.2.2)].toArray 4 (0, 0)), mone g5 (.cells [Value.bool (g.2.1)].toArray 4 (0, 0)), mone g3 (.cells [str ((g.1))].toArray 9 (0, 0))])) ([], false, false) ⟨by exact getAt_0 _ _, hg12⟩ (fun _ _ => hit11) (.inr ⟨0, (.tail _ (.tail _ (.head _)))⟩) rfl rfl rfl (fun _ _ _ h => by obtain ⟨_, _, _, _, _, _, rfl, _⟩ := h; rfl) (Bx := Nat) (fun args B => [(8, Value.pointer (some ⟨B, 0, none⟩)), (0, Value.pointer (some ⟨g0, 0, none⟩)), (1, str (d1)), (3, Value.pointer (some ⟨g1, 0, none⟩)), (4, Value.pointer (some ⟨g3, 0, none⟩)), (5, Value.pointer (some ⟨g5, 0, none⟩)), (6, Value.pointer (some ⟨g7, 0, none⟩)), (11, Value.bool (decide (d0.1 = none)))]) (fun args B => [(118, mone B (.cells (aggC (args.getD 1 undef)) 32 (0, 0)))]) ?_ ?_ ?_ ?_
    · intro w1_ l_ at_ args_ mr_ Ω_ hE_
      obtain ⟨hE0_, hE1_, rfl, x_, cs_, hxa_, rfl, hrx_⟩ := hE_
      have hrx0_ := hrx_
      obtain ⟨xA_, xc_, rfl, hxf_, hxu_, hro_⟩ := open_Run (x0 := x_.1) (x1 := x_.2.1) (x2 := x_.2.2) hrx_
      simp only [inK] at hxf_ hxu_
      have hxr_ := Rd.room hro_
      have hxc_ := runCheck_ok (okU_all e0 x_ (List.mem_of_getElem? hxa_))
      have hup_ := hxc_.2.2.2.2
      refine VX.reg ?_
      refine VO.alloc 118 rfl tz32 (fun gB_ => ?_)
      refine VO.store (k := 3) (c' := [Value.int .i64 (x_.1), Value.int .i64 (x_.2.1), Value.slice xA_ (x_.2.2.length) (xc_)]) 118 rfl rfl (.inl tk32) rfl rfl rfl rfl rfl ?_
      refine VO.nil ?_
      exact ⟨rfl, rfl, gB_, ⟨rfl, rfl, rfl, rfl, rfl, rfl, rfl, rfl, trivial⟩, fun W_ hW_ => Inv.rot hW_⟩
    · -- FB
      rintro w1_ l_ D_ at_ ⟨val, met, th⟩ args_ mr_ ml_ mo_ gB_ ⟨hg, hSep_⟩ hE_
      replace hg : getAt d0.2.2 d1 at_ := hg
      replace hSep_ : Seps (muns [mone g7 (.cells [Value.bool th].toArray 4 (0, 0)), mone g5 (.cells [Value.bool met].toArray 4 (0, 0)), mone g3 (.cells [str (val)].toArray 9 (0, 0))]) [mone g7 (.cells [Value.bool th].toArray 4 (0, 0)), mone g5 (.cells [Value.bool met].toArray 4 (0, 0)), mone g3 (.cells [str (val)].toArray 9 (0, 0))] := hSep_
      obtain ⟨hE0_, hE1_, rfl, x_, cs_, hxa_, rfl, hrx_⟩ := hE_
      have hrx0_ := hrx_
      obtain ⟨xA_, xc_, rfl, hxf_, hxu_, hro_⟩ := open_Run (x0 := x_.1) (x1 := x_.2.1) (x2 := x_.2.2) hrx_
      simp only [inK] at hxf_ hxu_
      have hxr_ := Rd.room hro_
      have hxc_ := runCheck_ok (okU_all e0 x_ (List.mem_of_getElem? hxa_))
      have hup_ := hxc_.2.2.2.2
      refine VX.parts 113 [108, 106, 104] rfl hSep_ ?_
      show VX _ _ _ _ _ _ _ [(8, Value.pointer (some ⟨gB_, 0, none⟩)), (0, Value.pointer (some ⟨g0, 0, none⟩)), (1, str (d1)), (3, Value.pointer (some ⟨g1, 0, none⟩)), (4, Value.pointer (some ⟨g3, 0, none⟩)), (5, Value.pointer (some ⟨g5, 0, none⟩)), (6, Value.pointer (some ⟨g7, 0, none⟩)), (11, Value.bool (decide (d0.1 = none)))] [(108, mone g7 (.cells [Value.bool th].toArray 4 (0, 0))), (106, mone g5 (.cells [Value.bool met].toArray 4 (0, 0))), (104, mone g3 (.cells [str (val)].toArray 9 (0, 0))), (116, mnil), (117, mo_), (115, ml_), (114, mone D_ (.deferred (some []))), (1, mone g0 (.cells [Value.pointer ((d0.1).map fun g => ⟨g, 0, none⟩), Value.bool d0.2.1, Value.slice A0_2 (d0.2.2.length) (c0_2)].toArray E0 (0, 0))), (102, mone g1 (.cells [str (d1)].toArray 9 (0, 0))), (0, mout (wm W) (mone g0 (.cells [Value.pointer ((d0.1).map fun g => ⟨g, 0, none⟩), Value.bool d0.2.1, Value.slice A0_2 (d0.2.2.length) (c0_2)].toArray E0 (0, 0)))), (118, mone gB_ (.cells [Value.int .i64 (x_.1), Value.int .i64 (x_.2.1), Value.slice xA_ (x_.2.2.length) (xc_)].toArray 32 (0, 0)))]
      refine VX.block ?_
      refine VX.rs ?_
      refine VO.y rfl (.fa rfl tst32 rfl) ?_
      refine VO.y rfl (.ld1 118 rfl tk30 rfl (cellsAt_one rfl rfl)) ?_
      refine VO.y rfl (.lenS rfl tsl30) ?_
      refine VO.y rfl (.mkf rfl) ?_
      refine VO.callN 119 rfl fnOk47 rfl (fun W_ hW_ => search_ok (p1 := geK x_.2.2 d1) W_ x_.2.2.length bd fnOk48 (fun W2_ hW2_ i_ hi_ => get1_ok W2_ i_ (by omega) (d1 := x_) (Rd.mono hrx_ ((hW_.at (i := 0) rfl).trans hW2_)) ((hW_.at (i := 118) rfl).trans hW2_) (d2 := d1) (v2 := [str d1]) ⟨rfl, h1⟩ ((hW_.at (i := 102) rfl).trans hW2_) hi_) (by omega)) (fun v19 m19 hv19 => ?_)
      obtain ⟨kq19, rfl, hq1_19, hq2_19, hq3_19⟩ := hv19
      refine VO.as ?_
      refine VO.k9 0 1 3 4 5 6 8 9 11 ?_
      refine VX.seq ?_
      refine VX.regD _ 13 [(0, true), (1, true), (2, true), (3, true), (4, true), (5, true), (6, true), (7, true), (8, true), (9, true), (10, true), (11, true), (12, true)] follows (by kernel_rfl) (fun _ h => h.sub [119, 108, 106, 104, 116, 117, 115, 114, 1, 102, 0, 118]) ?_
      refine VD.y rfl rfl (.inl rfl) (.mv rfl) ?_
      refine VD.y rfl rfl (.inl rfl) (.fa rfl tst32 rfl) ?_
      refine VD.y rfl rfl (.inl rfl) (.ld1 118 rfl tk30 rfl (cellsAt_one rfl rfl)) ?_
      refine VD.y rfl rfl (.inl rfl) (.lenS rfl tsl30) ?_
      refine VD.y rfl rfl (.inl rfl) (.lss rfl rfl) ?_
      refine VD.y rfl rfl (.inl rfl) (.mv rfl) ?_
      refine VD.dec (s := 29) rfl (fun hc20 => ?_) (fun hc20 => ?_)
      · -- FBT
        refine VD.y rfl rfl (.inr ⟨_, _, rfl, _, rfl, rfl⟩) (.fa rfl tst32 rfl) ?_
        refine VD.y rfl rfl (.inr ⟨_, _, rfl, _, rfl, rfl⟩) (.ld1 118 rfl tk30 rfl (cellsAt_one rfl rfl)) ?_
        refine VD.y rfl rfl (.inr ⟨_, _, rfl, _, rfl, rfl⟩) (.mv rfl) ?_
        obtain ⟨x21, hx21⟩ : ∃ z_, (x_.2.2)[kq19]? = some z_ := ⟨_, List.getElem?_eq_getElem bd⟩
        obtain ⟨gg21, oo21, ec21, ea21, hce21, hre21⟩ := hro_.elem hx21
        cases ea21
        obtain ⟨rfl, q21_1, q21_2⟩ := open_Op (x0 := x21.1) (x1 := x21.2.1) (x2 := x21.2.2) hre21
        simp only [maxLen] at q21_1
        simp only [maxLen] at q21_2
        refine VD.y rfl rfl (.inr ⟨_, _, rfl, _, rfl, rfl⟩) (.ixI kq19 rfl rfl tsl30 rfl bd) ?_
        refine VD.y rfl rfl (.inr ⟨_, _, rfl, _, rfl, rfl⟩) (.fa rfl tst35 rfl) ?_
        refine VD.y rfl rfl (.inr ⟨_, _, rfl, _, rfl, rfl⟩) (.ld1 0 rfl tk9 rfl (hce21.at1 (j := 1) rfl)) ?_
        refine VD.y rfl rfl (.inr ⟨_, _, rfl, _, rfl, rfl⟩) (.ld1 102 rfl tk9 rfl (cellsAt_one rfl rfl)) ?_
        refine VD.nil rfl ?_ rfl
        refine VO.gy rfl ⟨_, rfl, rfl⟩ (.seql rfl rfl) ?_
        refine VO.y rfl (.pT rfl rfl) ?_
        refine VO.k10 0 1 3 4 5 6 8 9 11 38 ?_
        refine outN ?_
        refine VX.cond rfl (fun hc22 => ?_) (fun hc22 => ?_)
        · -- FBTT
          refine VX.seq ?_
          refine VX.inv _ (fun _ h => Inv.num h 106 2106 rfl) ?_
          refine VX.inv _ (fun _ h => Inv.num h 104 2104 rfl) ?_
          refine VX.regD _ 14 [(0, true), (1, true), (2, true), (3, true), (4, true), (5, true), (6, true), (7, true), (8, true), (9, true), (10, true), (11, true), (12, false), (13, false)] follows (by kernel_rfl) (fun _ h => h.sub [119, 108, 2106, 2104, 116, 117, 115, 114, 1, 102, 0, 118]) ?_
          refine VD.y rfl rfl (.inl rfl) (.fa rfl tst32 rfl) ?_
          refine VD.y rfl rfl (.inl rfl) (.ld1 118 rfl tk30 rfl (cellsAt_one rfl rfl)) ?_
          refine VD.y rfl rfl (.inl rfl) (.mv rfl) ?_
          refine VD.y rfl rfl (.inl rfl) (.ixI kq19 rfl rfl tsl30 rfl bd) ?_
          refine VD.y rfl rfl (.inl rfl) (.fa rfl tst35 rfl) ?_
          refine VD.y rfl rfl (.inl rfl) (.ld1 0 rfl tk9 rfl (hce21.at1 (j := 2) rfl)) ?_
          refine VD.y rfl rfl (.inl rfl) (.fa rfl tst32 rfl) ?_
          refine VD.y rfl rfl (.inl rfl) (.ld1 118 rfl tk30 rfl (cellsAt_one rfl rfl)) ?_
          refine VD.y rfl rfl (.inl rfl) (.mv rfl) ?_
          refine VD.y rfl rfl (.inl rfl) (.ixI kq19 rfl rfl tsl30 rfl bd) ?_
          refine VD.y rfl rfl (.inl rfl) (.fa rfl tst35 rfl) ?_
          refine VD.y rfl rfl (.inl rfl) (.ld1 0 rfl tk4 rfl (hce21.at1 (j := 0) rfl)) ?_
          refine VD.storeH (k := 1) (c' := [str (x21.2.2)]) 2104 rfl rfl rfl (.inr ⟨tk9, rfl⟩) rfl rfl rfl rfl rfl (fun _ h => h.sub [119, 108, 116, 117, 115, 114, 1, 102, 0, 118]) ?_
          refine VD.storeH (k := 1) (c' := [Value.bool true]) 2106 rfl rfl rfl (.inr ⟨tk4, rfl⟩) rfl rfl rfl rfl rfl (fun _ h => h.sub [119, 108, 116, 117, 115, 114, 1, 102, 0, 118]) ?_
          refine VD.nil rfl ?_ rfl
          refine VO.store (k := 1) (c' := [Value.bool x21.1]) 108 rfl rfl (.inr ⟨tk4, rfl⟩) rfl rfl rfl rfl rfl ?_
          refine VO.kp [108, 2106, 2104, 117, 115, 114, 1, 102, 0, 118] [(108, mone g7 (.cells [Value.bool x21.1].toArray 4 (0, 0))), (2106, mone g5 (.cells [Value.bool true].toArray 4 (0, 0))), (2104, mone g3 (.cells [str (x21.2.2)].toArray 9 (0, 0))), (117, mo_), (115, ml_), (114, mone D_ (.deferred (some []))), (1, mone g0 (.cells [Value.pointer ((d0.1).map fun g => ⟨g, 0, none⟩), Value.bool d0.2.1, Value.slice A0_2 (d0.2.2.length) (c0_2)].toArray E0 (0, 0))), (102, mone g1 (.cells [str (d1)].toArray 9 (0, 0))), (0, mout (wm W) (mone g0 (.cells [Value.pointer ((d0.1).map fun g => ⟨g, 0, none⟩), Value.bool d0.2.1, Value.slice A0_2 (d0.2.2.length) (c0_2)].toArray E0 (0, 0)))), (118, mone gB_ (.cells [Value.int .i64 (x_.1), Value.int .i64 (x_.2.1), Value.slice (some ⟨gg21, oo21, none⟩) (x_.2.2.length) (xc_)].toArray 32 (0, 0)))] ?_
          refine VO.k10 0 1 3 4 5 6 8 9 11 38 ?_
          refine outN ?_
          refine VX.ret ?_
          refine outBR ?_
          exact ⟨rfl, fun W_ hW_ => ⟨⟨x21.2.2, true, x21.1⟩, (hW_.gather (ids := [108, 2106, 2104]) 113 rfl).1.sub [117, 115, 113, 114, 1, 102, 0], .inr ⟨rfl, rfl, by exact getAt_hit hg hE0_ hxa_ (find_at hup_ ‹x_.2.2[kq19]? = some _› (by assumption)), (hW_.gather (ids := [108, 2106, 2104]) 113 rfl).2⟩⟩⟩
        · -- FBTF
          refine VX.skip ?_
          refine outBN ?_
          exact ⟨rfl, fun W_ hW_ => ⟨⟨val, met, th⟩, (hW_.gather (ids := [108, 106, 104]) 113 rfl).1.sub [117, 115, 113, 114, 1, 102, 0], .inl ⟨rfl, by exact getAt_next hg hE0_ hxa_ (find_not hup_ hq1_19 hq2_19 hq3_19 (by intro y_ hy_; first | (exfalso; have h_ := (List.getElem?_eq_some_iff.1 hy_).1; omega) | (rw [hx21] at hy_; cases hy_; assumption))), (hW_.gather (ids := [108, 106, 104]) 113 rfl).2⟩⟩⟩
      · -- FBF
        refine VD.gn rfl rfl (.inl ⟨_, rfl, rfl⟩) ?_
        refine VD.gn rfl rfl (.inl ⟨_, rfl, rfl⟩) ?_
        refine VD.gn rfl rfl (.inl ⟨_, rfl, rfl⟩) ?_
        refine VD.gn rfl rfl (.inl ⟨_, rfl, rfl⟩) ?_
        refine VD.gn rfl rfl (.inl ⟨_, rfl, rfl⟩) ?_
        refine VD.gn rfl rfl (.inl ⟨_, rfl, rfl⟩) ?_
        refine VD.gn rfl rfl (.inl ⟨_, rfl, rfl⟩) ?_
        refine VD.nil rfl ?_ rfl
        refine VO.gN ?_
        refine VO.y rfl (.pF rfl rfl) ?_
        refine VO.k10 0 1 3 4 5 6 8 9 11 38 ?_
        refine outN ?_
        refine VX.condF rfl ?_
        refine VX.skip ?_
        refine outBN ?_
        exact ⟨rfl, fun W_ hW_ => ⟨⟨val, met, th⟩, (hW_.gather (ids := [108, 106, 104]) 113 rfl).1.sub [117, 115, 113, 114, 1, 102, 0], .inl ⟨rfl, by exact getAt_next hg hE0_ hxa_ (find_not hup_ hq1_19 hq2_19 hq3_19 (by intro y_ hy_; first | (exfalso; have h_ := (List.getElem?_eq_some_iff.1 hy_).1; omega) | (rw [hx21] at hy_; cases hy_; assumption))), (hW_.gather (ids := [108, 106, 104]) 113 rfl).2⟩⟩⟩
    · -- FD
      rintro D_ at_ ⟨val, met, th⟩ ⟨hg, hSep_⟩ hDn_
      replace hg : getAt d0.2.2 d1 at_ := hg
      replace hSep_ : Seps (muns [mone g7 (.cells [Value.bool th].toArray 4 (0, 0)), mone g5 (.cells [Value.bool met].toArray 4 (0, 0)), mone g3 (.cells [str (val)].toArray 9 (0, 0))]) [mone g7 (.cells [Value.bool th].toArray 4 (0, 0)), mone g5 (.cells [Value.bool met].toArray 4 (0, 0)), mone g3 (.cells [str (val)].toArray 9 (0, 0))] := hSep_
      refine outBN ?_
      refine outN ?_
      refine VX.parts 113 [108, 106, 104] rfl hSep_ ?_
      show VX _ _ _ _ _ _ _ [(0, Value.pointer (some ⟨g0, 0, none⟩)), (1, str (d1)), (3, Value.pointer (some ⟨g1, 0, none⟩)), (4, Value.pointer (some ⟨g3, 0, none⟩)), (5, Value.pointer (some ⟨g5, 0, none⟩)), (6, Value.pointer (some ⟨g7, 0, none⟩)), (11, Value.bool (decide (d0.1 = none))), (16, Value.func (.func 78) #[] ca11.toArray)] [(108, mone g7 (.cells [Value.bool th].toArray 4 (0, 0))), (106, mone g5 (.cells [Value.bool met].toArray 4 (0, 0))), (104, mone g3 (.cells [str (val)].toArray 9 (0, 0))), (114, mone D_ (.deferred (some []))), (1, mone g0 (.cells [Value.pointer ((d0.1).map fun g => ⟨g, 0, none⟩), Value.bool d0.2.1, Value.slice A0_2 (d0.2.2.length) (c0_2)].toArray E0 (0, 0))), (102, mone g1 (.cells [str (d1)].toArray 9 (0, 0))), (0, mout (wm W) (mone g0 (.cells [Value.pointer ((d0.1).map fun g => ⟨g, 0, none⟩), Value.bool d0.2.1, Value.slice A0_2 (d0.2.2.length) (c0_2)].toArray E0 (0, 0))))]
      refine VX.rs ?_
      refine VO.store (k := 1) (c' := [str ([])]) 104 rfl rfl (.inr ⟨tk9, rfl⟩) rfl rfl rfl rfl rfl ?_
      refine VO.store (k := 1) (c' := [Value.bool false]) 106 rfl rfl (.inr ⟨tk4, rfl⟩) rfl rfl rfl rfl rfl ?_
      refine VO.store (k := 1) (c' := [Value.bool false]) 108 rfl rfl (.inr ⟨tk4, rfl⟩) rfl rfl rfl rfl rfl ?_
      refine VO.k8 0 1 3 4 5 6 11 16 ?_
      refine VX.ret ?_
      refine ⟨114, rfl, ?_⟩
      refine ⟨_, _, res_run (rs := [.cell 4 9, .cell 5 4, .cell 6 4]) rfl (.one 104 rfl tk9 rfl ⟨_, _, _, mone_self _ _, rfl⟩ (.one 106 rfl tk4 rfl ⟨_, _, _, mone_self _ _, rfl⟩ (.one 108 rfl tk4 rfl ⟨_, _, _, mone_self _ _, rfl⟩ .nil))), fun W_ hI => out_of (l := [mone g0 (.cells [Value.pointer ((d0.1).map fun g => ⟨g, 0, none⟩), Value.bool d0.2.1, Value.slice A0_2 (d0.2.2.length) (c0_2)].toArray E0 (0, 0))]) hI [1] rfl rfl (mle_refl _) (fun hS_ => ?_)⟩
      dsimp only [packV]
      refine ⟨?_, ?_⟩
      rotate_left
      · rw [muns_one]
      all_goals (first | rfl | (first | (rw [hs] <;> first | done | rfl) | (rw [getAt_end hg hDn_] <;> first | done | rfl)))
    · -- FX
      rintro D_ _ ⟨val, met, th⟩ ⟨rfl, hs, hSep_⟩ _
      replace hs : getR d0.2.2 d1 = (val, met, th) := hs
      replace hSep_ : Seps (muns [mone g7 (.cells [Value.bool th].toArray 4 (0, 0)), mone g5 (.cells [Value.bool met].toArray 4 (0, 0)), mone g3 (.cells [str (val)].toArray 9 (0, 0))]) [mone g7 (.cells [Value.bool th].toArray 4 (0, 0)), mone g5 (.cells [Value.bool met].toArray 4 (0, 0)), mone g3 (.cells [str (val)].toArray 9 (0, 0))] := hSep_
      refine outBR ?_
      refine outR ?_
      refine ⟨114, rfl, ?_⟩
      refine ⟨_, _, res_run (rs := [.cell 4 9, .cell 5 4, .cell 6 4]) rfl (.one 113 rfl tk9 rfl ⟨_, _, _, hSep_.1 _ (.tail _ (.tail _ (.head _))) _ _ (mone_self _ _), rfl⟩ (.one 113 rfl tk4 rfl ⟨_, _, _, hSep_.1 _ (.tail _ (.head _)) _ _ (mone_self _ _), rfl⟩ (.one 113 rfl tk4 rfl ⟨_, _, _, hSep_.1 _ (.head _) _ _ (mone_self _ _), rfl⟩ .nil))), fun W_ hI => out_of (l := [mone g0 (.cells [Value.pointer ((d0.1).map fun g => ⟨g, 0, none⟩), Value.bool d0.2.1, Value.slice A0_2 (d0.2.2.length) (c0_2)].toArray E0 (0, 0))]) hI [1] rfl rfl (mle_refl _) (fun hS_ => ?_)⟩
      dsimp only [packV]
      refine ⟨?_, ?_⟩
      rotate_left
      · rw [muns_one]
      all_goals (first | rfl | (first | (rw [hs] <;> first | done | rfl) | (rw [getAt_end hg hDn_] <;> first | done | rfl)))
theorem run_ext {x y : DRun} (h1 : x.1 = y.1) (h2 : x.2.1 = y.2.1) (h3 : x.2.2 = y.2.2) : x = y := Prod.ext h1 (Prod.ext h2 h3)
abbrev qA (B : Bytes) (s : RS) : Int × RS := rNum B 1 s
abbrev qT (B : Bytes) (s : RS) : Bytes × RS := rBytes B (rNum B 16 (qA B s).2).1 (rNum B 16 (qA B s).2).2
abbrev qV (B : Bytes) (s : RS) : Bytes × RS := rBytes B (rNum B 32 (qT B s).2).1 (rNum B 32 (qT B s).2).2
def rOp1 (B : Bytes) (s : RS) : DOp × RS :=
  if (qA B s).1 = 1 then
    if (qV B s).2.2 = true ∨ ¬ opCheck (true, (qT B s).1, (qV B s).1) = 0 then ((false, [], []), ((qV B s).2.1, true)) else ((true, (qT B s).1, (qV B s).1), (qV B s).2)
  else if (qT B s).2.2 = true ∨ ¬ opCheck (false, (qT B s).1, []) = 0 then ((false, [], []), ((qT B s).2.1, true)) else ((false, (qT B s).1, []), (qT B s).2)
section
variable {B b : Bytes} {s : RS} {a m : Int}
theorem rOp1_pb (h : (qA B s).1 = 1) (hb : (qV B s).2.2 = true ∨ ¬ opCheck (decide ((qA B s).1 = 1), (qT B s).1, (qV B s).1) = 0) : rOp1 B s = ((false, [], []), ((qV B s).2.1, true)) := by
  rw [decide_eq_true h] at hb; unfold rOp1; rw [if_pos h, if_pos hb]
theorem rOp1_pg (h : (qA B s).1 = 1) (h1 : (qV B s).2.2 = false) (h2 : ¬ ¬ opCheck (decide ((qA B s).1 = 1), (qT B s).1, (qV B s).1) = 0) : rOp1 B s = ((decide ((qA B s).1 = 1), (qT B s).1, (qV B s).1), (qV B s).2) := by
  rw [decide_eq_true h] at h2 ⊢; unfold rOp1; rw [if_pos h, if_neg (by rintro (q | q); rw [h1] at q; cases q; exact h2 q)]
theorem rOp1_db (h : ¬ (qA B s).1 = 1) (hb : (qT B s).2.2 = true ∨ ¬ opCheck (decide ((qA B s).1 = 1), (qT B s).1, []) = 0) : rOp1 B s = ((false, [], []), ((qT B s).2.1, true)) := by
  rw [decide_eq_false h] at hb; unfold rOp1; rw [if_neg h, if_pos hb]
theorem rOp1_dg (h : ¬ (qA B s).1 = 1) (h1 : (qT B s).2.2 = false) (h2 : ¬ ¬ opCheck (decide ((qA B s).1 = 1), (qT B s).1, []) = 0) : rOp1 B s = ((decide ((qA B s).1 = 1), (qT B s).1, []), (qT B s).2) := by
  rw [decide_eq_false h] at h2 ⊢; unfold rOp1; rw [if_neg h, if_neg (by rintro (q | q); rw [h1] at q; cases q; exact h2 q)]
theorem qT_ok (h : rOk B s) : rOk B (qT B s).2 ∧ ((qT B s).1.length : Int) ≤ 16 := by
  have h1 := rNum_ok (m := 1) h (by decide)
  have h2 := rNum_ok (m := 16) h1.1 (by decide)
  have h3 := rBytes_ok (n := (rNum B 16 (qA B s).2).1) h2.1 h2.2.1
  have h4 := h2.2.2.2.1 (by decide)
  exact ⟨h3.1, Int.le_trans h3.2 h4⟩
theorem qV_ok (h : rOk B s) : rOk B (qV B s).2 ∧ ((qV B s).1.length : Int) ≤ 32 := by
  have h0 := (qT_ok h).1
  have h2 := rNum_ok (m := 32) h0 (by decide)
  have h3 := rBytes_ok (n := (rNum B 32 (qT B s).2).1) h2.1 h2.2.1
  have h4 := h2.2.2.2.1 (by decide)
  exact ⟨h3.1, Int.le_trans h3.2 h4⟩
theorem rOp1_ok (h : rOk B s) : rOk B (rOp1 B s).2 ∧ (rOp1 B s).1.2.1.length ≤ 16 ∧ (rOp1 B s).1.2.2.length ≤ 32 := by
  have h1 := qT_ok h; have h2 := qV_ok h
  unfold rOp1; split
  · split
    · exact ⟨h2.1, Nat.zero_le _, Nat.zero_le _⟩
    · exact ⟨h2.1, by dsimp only; omega, by dsimp only; omega⟩
  · split
    · exact ⟨h1.1, Nat.zero_le _, Nat.zero_le _⟩
    · exact ⟨h1.1, by dsimp only; omega, Nat.zero_le _⟩
theorem vgo_ge : ∀ {r : Bytes} {i x y n : Nat}, 1 ≤ i → vgo i x r = some (y, n) → 2 ^ (7 * i) ≤ y
  | [], i, x, y, n, _, h => by rw [vgo] at h; cases h
  | c :: r, i, x, y, n, hi, h => by
    rw [vgo] at h
    split at h
    · cases h
    · split at h
      · have h1 := vgo_ge (by omega) h
        have h2 : 2 ^ (7 * i) ≤ 2 ^ (7 * (i + 1)) := Nat.pow_le_pow_right (by decide) (by omega)
        omega
      · split at h
        · cases h
        · rename_i h1 h2 h3
          simp only [Option.some.injEq, Prod.mk.injEq] at h
          have h4 : 1 ≤ c.toNat := by omega
          have h5 : c.toNat % 128 = c.toNat := Nat.mod_eq_of_lt (by omega)
          rw [h5] at h
          have h6 : 1 * 2 ^ (7 * i) ≤ c.toNat * 2 ^ (7 * i) := Nat.mul_le_mul_right _ h4
          omega
theorem bit_nil : ¬ sE ([] : Bytes) 1 = 0 := by decide
theorem bit_big {c : UInt8} {r : Bytes} (h : 1 < c.toNat) : ¬ sE (c :: r) 1 = 0 := by
  unfold sE vsmall vread
  rw [vgo]
  rw [if_neg (by omega)]
  by_cases hc : c.toNat ≥ 128
  · rw [if_pos hc]
    cases hv : vgo (0 + 1) (0 + c.toNat % 128 * 2 ^ (7 * 0)) r with
    | none => decide
    | some p =>
      obtain ⟨y, n⟩ := p
      have h1 := vgo_ge (by omega) hv
      have h2 : (128 : Nat) ≤ y := h1
      dsimp only
      rw [if_neg (by omega)]; decide
  · rw [if_neg hc, if_neg (by omega)]
    have h5 : c.toNat % 128 = c.toNat := Nat.mod_eq_of_lt (by omega)
    dsimp only
    rw [if_neg (by rw [h5]; omega)]; decide
theorem bit_small {c : UInt8} {r : Bytes} (h : ¬ 1 < c.toNat) : sE (c :: r) 1 = 0 ∧ sX (c :: r) 1 = c.toNat ∧ sN (c :: r) 1 = 1 := by
  have h5 : c.toNat % 128 = c.toNat := Nat.mod_eq_of_lt (by omega)
  have e : vsmall (c :: r) 1 = some (c.toNat, 1) := by
    unfold vsmall vread
    rw [vgo, if_neg (by omega), if_neg (by omega), if_neg (by omega), h5]
    dsimp only
    rw [if_pos (by omega)]; simp
  unfold sE sX sN; rw [e]; exact ⟨rfl, rfl, rfl⟩
theorem drop_add (B : Bytes) (h0 : 0 ≤ a) (n : Nat) : B.drop (a + (n : Int)).toNat = (B.drop a.toNat).drop n := by
  rw [List.drop_drop]; congr 1; omega
theorem text_rd (h0 : 0 ≤ a) (ha : a ≤ B.length) (hm : 0 ≤ m) (hm2 : m ≤ 1000) :
    ((tRd (B.drop a.toNat) m).2.2 = true ∧ rBytes B (rNum B m (a, false)).1 (rNum B m (a, false)).2 = ((tRd (B.drop a.toNat) m).1, (a + (tRd (B.drop a.toNat) m).2.1, false))) ∨
    ((tRd (B.drop a.toNat) m).2.2 = false ∧ (rBytes B (rNum B m (a, false)).1 (rNum B m (a, false)).2).2.2 = true) := by
  have hb := s_bounds (B.drop a.toNat) m (by omega)
  rw [List.length_drop] at hb
  by_cases h : sE (B.drop a.toNat) m = 0
  · rw [rNum_some rfl h]
    by_cases h2 : (sN (B.drop a.toNat) m : Int) + sX (B.drop a.toNat) m ≤ (B.drop a.toNat).length
    · left
      have h2' := h2
      rw [List.length_drop] at h2'
      have e : tRd (B.drop a.toNat) m = (((B.drop a.toNat).drop (sN (B.drop a.toNat) m)).take (sX (B.drop a.toNat) m), (sN (B.drop a.toNat) m : Int) + sX (B.drop a.toNat) m, true) := if_pos ⟨h, h2⟩
      refine ⟨by rw [e], ?_⟩
      rw [e, rBytes_good rfl (by dsimp only; omega)]
      dsimp only
      rw [drop_add B h0, Int.toNat_natCast, Int.add_assoc]
    · right
      rw [List.length_drop] at h2
      refine ⟨by rw [tRd_no2 (by rw [List.length_drop]; omega)], by rw [rBytes_bad (.inr (by dsimp only; omega))]⟩
  · right
    exact ⟨by rw [tRd_no1 h], by rw [rNum_none rfl h, rBytes_bad (.inl rfl)]⟩
theorem rNum_stuck (h : s.2 = true) : (rNum B m s).2.2 = true := by rw [rNum_bad h]; exact h
theorem qstuck {n : Int} {t : RS} (h : t.2 = true) : (rBytes B n t).2.2 = true := rBytes_stuck h
theorem rOp1_rd (h0 : 0 ≤ a) (ha : a ≤ B.length) :
    ((opRd (B.drop a.toNat)).2.2 = 0 ∧ rOp1 B (a, false) = ((opRd (B.drop a.toNat)).1, (a + (opRd (B.drop a.toNat)).2.1, false))) ∨ (¬ (opRd (B.drop a.toNat)).2.2 = 0 ∧ (rOp1 B (a, false)).2.2 = true) := by
  have stuckT : (qA B (a, false)).2.2 = true → (qA B (a, false)).1 = 0 → (rOp1 B (a, false)).2.2 = true := fun h h1 => by
    have h2 : (qT B (a, false)).2.2 = true := qstuck (rNum_stuck h)
    unfold rOp1; rw [if_neg (by rw [h1]; decide), if_pos (.inl h2)]
  cases hb : B.drop a.toNat with
  | nil =>
    right
    refine ⟨by decide, stuckT ?_ ?_⟩ <;> (show _ = _; rw [show qA B (a, false) = (0, (a, true)) from rNum_none rfl (by rw [hb]; exact bit_nil)])
  | cons c r =>
    have hl : (B.length : Int) - a = r.length + 1 := by
      have := congrArg List.length hb; rw [List.length_drop, List.length_cons] at this; omega
    by_cases hc : 1 < c.toNat
    · right
      refine ⟨by rw [opRd_kind (x := c) rfl (by omega)]; decide, stuckT ?_ ?_⟩ <;> (show _ = _; rw [show qA B (a, false) = (0, (a, true)) from rNum_none rfl (by rw [hb]; exact bit_big hc)])
    · obtain ⟨e1, e2, e3⟩ := bit_small (r := r) hc
      have eA : qA B (a, false) = ((c.toNat : Int), (a + 1, false)) := by
        have := rNum_some (B := B) (m := 1) (s := (a, false)) rfl (by rw [hb]; exact e1)
        rw [hb, e2, e3] at this; exact this
      have hd : B.drop (a + 1).toNat = r := by
        rw [show a + 1 = a + ((1 : Nat) : Int) from rfl, drop_add B h0, hb]; rfl
      have hc0 : (c :: r)[0]? = some c := rfl
      have hT := text_rd (B := B) (a := a + 1) (m := 16) (by omega) (by omega) (by decide) (by decide)
      rw [hd] at hT
      have eT : qT B (a, false) = rBytes B (rNum B 16 (a + 1, false)).1 (rNum B 16 (a + 1, false)).2 := by unfold qT; rw [eA]
      have fT := tRd_fits r (m := 16) (by decide) (by decide)
      rcases hT with ⟨t1, t2⟩ | ⟨t1, t2⟩
      · rw [← eT] at t2
        by_cases h1 : (c.toNat : Int) = 1
        · have hd2 : B.drop (a + 1 + (tRd r 16).2.1).toNat = (c :: r).drop (1 + (tRd r 16).2.1).toNat := by
            rw [show a + 1 + (tRd r 16).2.1 = a + (((1 + (tRd r 16).2.1).toNat : Nat) : Int) by omega, drop_add B h0, hb]
          have hV := text_rd (B := B) (a := a + 1 + (tRd r 16).2.1) (m := 32) (by omega) (by omega) (by decide) (by decide)
          rw [hd2] at hV
          have eV : qV B (a, false) = rBytes B (rNum B 32 (a + 1 + (tRd r 16).2.1, false)).1 (rNum B 32 (a + 1 + (tRd r 16).2.1, false)).2 := by unfold qV; rw [t2]
          rcases hV with ⟨v1, v2⟩ | ⟨v1, v2⟩
          · rw [← eV] at v2
            have eO : opRd (c :: r) = opEnd (true, (tRd r 16).1, (tRd ((c :: r).drop (1 + (tRd r 16).2.1).toNat) 32).1) (1 + (tRd r 16).2.1 + (tRd ((c :: r).drop (1 + (tRd r 16).2.1).toNat) 32).2.1) := by
              rw [opRd_put (b := c :: r) (by simp; omega) hc0 (by omega) t1 h1 v1, decide_eq_true h1]; rfl
            rw [eO]
            by_cases ho : opCheck (true, (tRd r 16).1, (tRd ((c :: r).drop (1 + (tRd r 16).2.1).toNat) 32).1) = 0
            · rw [opEnd_good (not_not_intro ho)]
              left
              refine ⟨rfl, ?_⟩
              unfold rOp1; rw [eA, if_pos h1, if_neg (by rw [v2, t2]; rintro (q | q); cases q; exact q ho), v2, t2]
              simp only [Prod.mk.injEq, true_and, and_true]; omega
            · rw [opEnd_bad ho]
              right
              refine ⟨by decide, ?_⟩
              unfold rOp1; rw [eA, if_pos h1, if_pos (.inr (by rw [v2, t2]; exact ho))]
          · rw [← eV] at v2
            right
            refine ⟨by rw [opRd_val (b := c :: r) (by simp; omega) hc0 (by omega) t1 h1 v1]; decide, ?_⟩
            unfold rOp1; rw [eA, if_pos h1, if_pos (.inl v2)]
        · have eO : opRd (c :: r) = opEnd (false, (tRd r 16).1, []) (1 + (tRd r 16).2.1) := by
            rw [opRd_del (b := c :: r) (by simp; omega) hc0 (by omega) t1 h1, decide_eq_false h1]; rfl
          rw [eO]
          by_cases ho : opCheck (false, (tRd r 16).1, []) = 0
          · rw [opEnd_good (not_not_intro ho)]
            left
            refine ⟨rfl, ?_⟩
            unfold rOp1; rw [eA, if_neg h1, if_neg (by rw [t2]; rintro (q | q); cases q; exact q ho), t2]
            simp only [Prod.mk.injEq, true_and, and_true]; omega
          · rw [opEnd_bad ho]
            right
            refine ⟨by decide, ?_⟩
            unfold rOp1; rw [eA, if_neg h1, if_pos (.inr (by rw [t2]; exact ho))]
      · rw [← eT] at t2
        right
        refine ⟨by rw [opRd_key (b := c :: r) t1]; decide, ?_⟩
        unfold rOp1; split
        · rename_i h1
          have hv : (qV B (a, false)).2.2 = true := qstuck (rNum_stuck t2)
          rw [if_pos (.inl hv)]
        · rw [if_pos (.inl t2)]
def pOps1 (B : Bytes) : Nat → RS → List DOp × RS
  | 0, s => ([], s)
  | n + 1, s => if s.2 = true then ([], s) else ((rOp1 B s).1 :: (pOps1 B n (rOp1 B s).2).1, (pOps1 B n (rOp1 B s).2).2)
theorem pOps1_zero {k : Int} (h : k ≤ 0 ∨ s.2 = true) : pOps1 B k.toNat s = ([], s) := by
  rcases h with h | h
  · rw [show k.toNat = 0 by omega]; rfl
  · cases k.toNat with
    | zero => rfl
    | succ n => exact if_pos h
theorem pOps1_step {k : Int} (h : 0 < k) (hs : s.2 = false) : pOps1 B k.toNat s = ((rOp1 B s).1 :: (pOps1 B (k - 1).toNat (rOp1 B s).2).1, (pOps1 B (k - 1).toNat (rOp1 B s).2).2) := by
  rw [show k.toNat = (k - 1).toNat + 1 by omega, pOps1, if_neg (by rw [hs]; decide)]
theorem ops1_step {L l : List DOp} {e : RS} {k : Int} (h : (L, e) = (l ++ (pOps1 B k.toNat s).1, (pOps1 B k.toNat s).2)) (hk : 0 < k) (hs : s.2 = false) : (L, e) = ((l ++ [(rOp1 B s).1]) ++ (pOps1 B (k - 1).toNat (rOp1 B s).2).1, (pOps1 B (k - 1).toNat (rOp1 B s).2).2) := by
  rw [h, pOps1_step hk hs]; simp
theorem ops1_end {L l : List DOp} {e : RS} {k : Int} (h : (L, e) = (l ++ (pOps1 B k.toNat s).1, (pOps1 B k.toNat s).2)) (hk : k ≤ 0 ∨ s.2 = true) : L = l ∧ e = s := by
  rw [pOps1_zero hk] at h; simp only [List.append_nil, Prod.mk.injEq] at h; exact h
theorem ops1_rd : ∀ {n : Nat} {a : Int}, 0 ≤ a → a ≤ B.length →
    (∃ l c a', rdOps n (B.drop a.toNat) = some (l, c) ∧ pOps1 B n (a, false) = (l, (a', false)) ∧ 0 ≤ a' ∧ a' ≤ B.length ∧ c = B.drop a'.toNat) ∨ (rdOps n (B.drop a.toNat) = none ∧ (pOps1 B n (a, false)).2.2 = true)
  | 0, a, h0, ha => .inl ⟨[], B.drop a.toNat, a, rfl, rfl, h0, ha, rfl⟩
  | n + 1, a, h0, ha => by
    have hp : pOps1 B (n + 1) (a, false) = ((rOp1 B (a, false)).1 :: (pOps1 B n (rOp1 B (a, false)).2).1, (pOps1 B n (rOp1 B (a, false)).2).2) := if_neg Bool.false_ne_true
    rcases rOp1_rd (B := B) h0 ha with ⟨h1, h2⟩ | ⟨h1, h2⟩
    · have hz := opRd_zero h1
      rw [List.length_drop] at hz
      have hd : (B.drop a.toNat).drop (opRd (B.drop a.toNat)).2.1.toNat = B.drop (a + (opRd (B.drop a.toNat)).2.1).toNat := by
        rw [List.drop_drop]; congr 1; omega
      rw [hp, h2, rdOps, if_pos h1, hd]
      rcases ops1_rd (n := n) (a := a + (opRd (B.drop a.toNat)).2.1) (by omega) (by omega) with ⟨l, c, a', e1, e2, e3, e4, e5⟩ | ⟨e1, e2⟩
      · exact .inl ⟨_, c, a', by rw [e1]; rfl, by rw [e2], e3, e4, e5⟩
      · exact .inr ⟨by rw [e1]; rfl, e2⟩
    · right
      refine ⟨by rw [rdOps, if_neg h1], ?_⟩
      rw [hp]; dsimp only
      have : ∀ k t, t.2 = true → (pOps1 B k t).2.2 = true := fun k t ht => by
        cases k with
        | zero => exact ht
        | succ k => rw [pOps1, if_pos ht]; exact ht
      exact this n _ h2
def refDec (B : Bytes) : DRun × Int :=
  if ((pOps1 B (rNum B 1024 (rNum B bMx (rNum B bMx (0, false)).2).2).1.toNat (rNum B 1024 (rNum B bMx (rNum B bMx (0, false)).2).2).2).2.2 = false ∧ (pOps1 B (rNum B 1024 (rNum B bMx (rNum B bMx (0, false)).2).2).1.toNat (rNum B 1024 (rNum B bMx (rNum B bMx (0, false)).2).2).2).2.1 = B.length) ∧
    runCheck ((rNum B bMx (0, false)).1, (rNum B bMx (rNum B bMx (0, false)).2).1, (pOps1 B (rNum B 1024 (rNum B bMx (rNum B bMx (0, false)).2).2).1.toNat (rNum B 1024 (rNum B bMx (rNum B bMx (0, false)).2).2).2).1) = 0
  then (((rNum B bMx (0, false)).1, (rNum B bMx (rNum B bMx (0, false)).2).1, (pOps1 B (rNum B 1024 (rNum B bMx (rNum B bMx (0, false)).2).2).1.toNat (rNum B 1024 (rNum B bMx (rNum B bMx (0, false)).2).2).2).1), 0) else ((0, 0, []), 5)
theorem refDec_eq (B : Bytes) : refDec B = runDecode B := by
  by_cases h1 : sE B bMx = 0
  · have e1 : rNum B bMx (0, false) = ((sX B bMx : Int), (0 + (sN B bMx : Int), false)) := rNum_some rfl (by exact h1)
    have hb1 := s_bounds B bMx (by decide)
    have d1 : B.drop (0 + (sN B bMx : Int)).toNat = dB1 B := by rw [drop_add B (Int.le_refl 0)]; rfl
    by_cases h2 : sE (dB1 B) bMx = 0
    · have e2 : rNum B bMx (0 + (sN B bMx : Int), false) = ((sX (dB1 B) bMx : Int), (0 + (sN B bMx : Int) + (sN (dB1 B) bMx : Int), false)) := by
        have := rNum_some (B := B) (m := bMx) (s := (0 + (sN B bMx : Int), false)) rfl (by rw [d1]; exact h2)
        rw [d1] at this; exact this
      have hb2 := s_bounds (dB1 B) bMx (by decide)
      rw [List.length_drop] at hb2
      have d2 : B.drop (0 + (sN B bMx : Int) + (sN (dB1 B) bMx : Int)).toNat = dB2 B := by rw [drop_add B (by omega), d1]
      by_cases h3 : sE (dB2 B) 1024 = 0
      · have e3 : rNum B 1024 (0 + (sN B bMx : Int) + (sN (dB1 B) bMx : Int), false) = ((sX (dB2 B) 1024 : Int), (0 + (sN B bMx : Int) + (sN (dB1 B) bMx : Int) + (sN (dB2 B) 1024 : Int), false)) := by
          have := rNum_some (B := B) (m := 1024) (s := (0 + (sN B bMx : Int) + (sN (dB1 B) bMx : Int), false)) rfl (by rw [d2]; exact h3)
          rw [d2] at this; exact this
        have hb3 := s_bounds (dB2 B) 1024 (by decide)
        rw [List.length_drop, List.length_drop] at hb3
        have d3 : B.drop (0 + (sN B bMx : Int) + (sN (dB1 B) bMx : Int) + (sN (dB2 B) 1024 : Int)).toNat = dB3 B := by rw [drop_add B (by omega), d2]
        rw [runDec_go (not_not_intro h1) (not_not_intro h2) (not_not_intro h3)]
        unfold refDec runDec3
        rw [e1]; dsimp only; rw [e2]; dsimp only; rw [e3]; dsimp only; rw [Int.toNat_natCast]
        rcases ops1_rd (B := B) (n := sX (dB2 B) 1024) (a := 0 + (sN B bMx : Int) + (sN (dB1 B) bMx : Int) + (sN (dB2 B) 1024 : Int)) (by omega) (by omega) with ⟨l, c, a', q1, q2, q3, q4, q5⟩ | ⟨q1, q2⟩
        · rw [d3] at q1
          rw [q1, q2]; dsimp only
          cases c with
          | nil =>
            have hl := congrArg List.length q5
            rw [List.length_nil, List.length_drop] at hl
            by_cases hc : runCheck ((sX B bMx : Int), (sX (dB1 B) bMx : Int), l) = 0
            · rw [if_pos ⟨⟨rfl, by omega⟩, hc⟩]; exact (if_pos hc).symm
            · rw [if_neg (fun q => hc q.2)]; exact (if_neg hc).symm
          | cons y c =>
            have hl := congrArg List.length q5
            rw [List.length_cons, List.length_drop] at hl
            rw [if_neg (fun q => by have := q.1.2; omega)]
        · rw [d3] at q1
          rw [q1, if_neg (fun q => by have := q.1.1; rw [q2] at this; cases this)]
      · rw [runDec_3 h3]
        have e3 : rNum B 1024 (0 + (sN B bMx : Int) + (sN (dB1 B) bMx : Int), false) = (0, (0 + (sN B bMx : Int) + (sN (dB1 B) bMx : Int), true)) := rNum_none rfl (by rw [d2]; exact h3)
        unfold refDec; rw [e1]; dsimp only; rw [e2]; dsimp only; rw [e3]; dsimp only
        exact if_neg fun q => by have := q.1.1; rw [pOps1_zero (.inr rfl)] at this; cases this
    · rw [runDec_2 h2]
      have e2 : rNum B bMx (0 + (sN B bMx : Int), false) = (0, (0 + (sN B bMx : Int), true)) := rNum_none rfl (by rw [d1]; exact h2)
      unfold refDec; rw [e1]; dsimp only; rw [e2]; dsimp only; rw [rNum_bad (s := (0 + (sN B bMx : Int), true)) rfl]
      exact if_neg fun q => by have := q.1.1; rw [pOps1_zero (.inr rfl)] at this; cases this
  · rw [runDec_1 h1]
    have e1 : rNum B bMx (0, false) = (0, (0, true)) := rNum_none rfl h1
    unfold refDec; rw [e1]; dsimp only; rw [rNum_bad (s := ((0 : Int), true)) rfl]; dsimp only; rw [rNum_bad (s := ((0 : Int), true)) rfl]
    exact if_neg fun q => by have := q.1.1; rw [pOps1_zero (.inr rfl)] at this; cases this
theorem dec_of {l : List DOp} {k : Int} {e : RS} (hp : pOps1 B (rNum B 1024 (rNum B bMx (rNum B bMx (0, false)).2).2).1.toNat (rNum B 1024 (rNum B bMx (rNum B bMx (0, false)).2).2).2 = (l ++ (pOps1 B k.toNat e).1, (pOps1 B k.toNat e).2)) (hk : k ≤ 0 ∨ e.2 = true) :
    runDecode B = if (e.2 = false ∧ e.1 = B.length) ∧ runCheck ((rNum B bMx (0, false)).1, (rNum B bMx (rNum B bMx (0, false)).2).1, l) = 0 then (((rNum B bMx (0, false)).1, (rNum B bMx (rNum B bMx (0, false)).2).1, l), 0) else ((0, 0, []), 5) := by
  have hf := ops1_end hp hk
  rw [← refDec_eq]; unfold refDec; rw [← hf.1, ← hf.2]
theorem dec_bad1 {l : List DOp} {k : Int} {e : RS} (hp : pOps1 B (rNum B 1024 (rNum B bMx (rNum B bMx (0, false)).2).2).1.toNat (rNum B 1024 (rNum B bMx (rNum B bMx (0, false)).2).2).2 = (l ++ (pOps1 B k.toNat e).1, (pOps1 B k.toNat e).2)) (hk : k ≤ 0 ∨ e.2 = true)
    (h : ¬ (e.2 = false ∧ e.1 = B.length)) : runDecode B = ((0, 0, []), 5) := by rw [dec_of hp hk, if_neg fun q => h q.1]
theorem dec_bad2 {l : List DOp} {k : Int} {e : RS} (hp : pOps1 B (rNum B 1024 (rNum B bMx (rNum B bMx (0, false)).2).2).1.toNat (rNum B 1024 (rNum B bMx (rNum B bMx (0, false)).2).2).2 = (l ++ (pOps1 B k.toNat e).1, (pOps1 B k.toNat e).2)) (hk : k ≤ 0 ∨ e.2 = true)
    (h : ¬ runCheck ((rNum B bMx (0, false)).1, (rNum B bMx (rNum B bMx (0, false)).2).1, l) = 0) : runDecode B = ((0, 0, []), 5) := by rw [dec_of hp hk, if_neg fun q => h q.2]
theorem dec_good {l : List DOp} {k : Int} {e : RS} (hp : pOps1 B (rNum B 1024 (rNum B bMx (rNum B bMx (0, false)).2).2).1.toNat (rNum B 1024 (rNum B bMx (rNum B bMx (0, false)).2).2).2 = (l ++ (pOps1 B k.toNat e).1, (pOps1 B k.toNat e).2)) (hk : k ≤ 0 ∨ e.2 = true)
    (h : ¬ ¬ (e.2 = false ∧ e.1 = B.length)) (h2 : ¬ ¬ runCheck ((rNum B bMx (0, false)).1, (rNum B bMx (rNum B bMx (0, false)).2).1, l) = 0) : runDecode B = (((rNum B bMx (0, false)).1, (rNum B bMx (rNum B bMx (0, false)).2).1, l), 0) := by rw [dec_of hp hk, if_pos ⟨Decidable.not_not.1 h, Decidable.not_not.1 h2⟩]
end
theorem two_runE (r : DRun) : ∀ x ∈ ([(runEncode r).1, (runEncode r).1] : List Bytes), x.length ≤ 140737488355000 := by
  have := (runEncode_len r).1
  intro x hx
  have e : x = (runEncode r).1 := by simpa using hx
  subst e; omega
theorem two_runD (b : Bytes) : ∀ x ∈ ([(runDecode b).1.2.2, (runDecode b).1.2.2] : List (List DOp)), x.length ≤ 3518437208800 ∧ ∀ o ∈ x, o.2.1.length ≤ 140737488400000 := by
  intro x hx
  have e : x = (runDecode b).1.2.2 := by simpa using hx
  subst e
  rcases runDec_cases b with ⟨h1, h2⟩ | h
  · have h3 := runCheck_ok h2
    exact ⟨by omega, fun o ho => by have := (opOk_of (h3.2.2.2.2.1 o ho)).2.1; omega⟩
  · rw [h]; exact ⟨by simp, fun o ho => by cases ho⟩
end Go.Proofs.Ytgmdjhdgaddigaa
