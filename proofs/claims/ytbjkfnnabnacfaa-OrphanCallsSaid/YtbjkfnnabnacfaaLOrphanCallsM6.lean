/- Part 6 of the proof of LOrphanCalls: what it needs of the library, the walks and the plain laws. Conditions: those named in each theorem. -/
import Derived.Test.YtbjkfnnabnacfaaLOrphanCallsM5
namespace Go.Proofs.Ytbjkfnnabnacfaa
section
set_option linter.unusedVariables false
set_option linter.unusedSimpArgs false
set_option maxRecDepth 4000
theorem fnOk23 : fnOk Try.prog 23 = true := by kernel_rfl
theorem fnOk25 : fnOk Try.prog 25 = true := by kernel_rfl
theorem fnOk26 : fnOk Try.prog 26 = true := by kernel_rfl
theorem fnOk27 : fnOk Try.prog 27 = true := by kernel_rfl
theorem fnOk13 : fnOk Try.prog 13 = true := by kernel_rfl
theorem fnOk14 : fnOk Try.prog 14 = true := by kernel_rfl
theorem fnOk24 : fnOk Try.prog 24 = true := by kernel_rfl
theorem fin0_orphanCalls_ok {P : Prop} (h : P := by first | omega | (simp only [List.length_append, List.length_nil, List.length_cons, List.length_take, List.length_drop] at *; omega) | (have h_ := (small_room ‹¬ ¬ smallS d0›); omega)) : P := h
set_option maxHeartbeats 4000000 in
theorem orphanCalls_ok (W : World) {v0 : List Value} {d0 : DSection} (h0 : Rd TSection (wm W) v0 d0) {v1 : Value} {d1 : List UInt8} (h1 : Rd (.sl .byte) (wm W) [v1] d1) (d2 : Int) (h2 : inK .i64 d2) (d3 : Int) (h3 : inK .i64 d3) (e0 : ∀ c ∈ d0.2.2, ∀ o ∈ c.2.2, o.2.1.length ≤ 140737488400000) : CallR Try.prog 4 [.agg v0.toArray, v1, .int .i64 d2, .int .i64 d3] W (mnil) (fun v m' => v = .bool true) := by
  obtain ⟨p0_A2, p0_c2, rfl, p0_0, p0_1, p0_2⟩ := open_Section (x0 := d0.1) (x1 := d0.2.1) (x2 := d0.2.2) h0
  simp only [inK] at p0_0
  simp only [inK] at p0_1
  have p0_r2 := Rd.room p0_2
  obtain ⟨A1, c1, rfl, l1, k1⟩ := h1.slice
  simp only [maxLen] at k1
  have h2' := h2; simp only [inK] at h2'
  have h3' := h3; simp only [inK] at h3'
  refine CallR.ofA (n := 163) Try.func4 rfl rfl rfl ?_
  refine VC.rs ?_
  refine VO.box (cs := [Value.int .i64 (d0.1), Value.int .i64 (d0.2.1), Value.slice p0_A2 (d0.2.2.length) (p0_c2)]) 102 rfl rfl rfl (fun g1 => ?_)
  refine VO.as ?_
  refine VO.k6 0 1 2 3 4 8 ?_
  refine VC.seq ?_
  refine VC.rs ?_
  refine VO.callN 103 rfl fnOk11 rfl (fun W hW => lives19_ok W ) (fun v3 m3 hv3 => ?_)
  subst hv3
  refine VO.y rfl (.not rfl) ?_
  refine VO.k7 0 1 2 3 4 8 28 ?_
  refine VC.condF rfl ?_
  refine VC.skip ?_
  refine outN ?_
  refine VC.seq ?_
  refine VC.rs ?_
  refine VO.y rfl (.ldA 102 rfl tk24 rfl (cellsAt_one rfl rfl)) ?_
  refine VO.callN 104 rfl fnOk13 rfl (fun W hW => small19_ok W (Rd.mono h0 (hW.at (i := 0) rfl))) (fun v4 m4 hv4 => ?_)
  subst hv4
  refine VO.y rfl (.notD rfl) ?_
  refine VO.mv ?_
  refine VO.dec (t := 32) rfl (fun hc5 => ?_) (fun hc5 => ?_)
  · -- T
    refine VO.gN ?_
    refine VO.gN ?_
    refine VO.gN ?_
    refine VO.y rfl (.pT rfl rfl) ?_
    refine VO.kp [102, 0] [(102, mone g1 (.cells [Value.int .i64 (d0.1), Value.int .i64 (d0.2.1), Value.slice p0_A2 (d0.2.2.length) (p0_c2)].toArray 24 (0, 0))), (0, wm W)] ?_
    refine VO.k8 0 1 2 3 4 8 28 36 ?_
    refine VC.condT rfl ?_
    refine VC.rs ?_
    refine VO.as ?_
    refine VO.k8 0 1 2 3 4 8 28 36 ?_
    refine VC.ret ?_
    refine outR ?_
    refine ⟨_, _, res_run (rs := [.tmp 8]) rfl (.tmp rfl .nil), fun W_ hI => out_of (l := []) hI [] rfl rfl (mle_refl _) (fun hS_ => ?_)⟩
    dsimp only [packV]
    all_goals (first | rfl | (simp [*]; done))
  · -- F
    refine VO.gy rfl ⟨_, rfl, rfl⟩ (.mv rfl) ?_
    refine VO.gy rfl ⟨_, rfl, rfl⟩ (.lenS rfl tsl25) ?_
    refine VO.gy rfl ⟨_, rfl, rfl⟩ (.gtr rfl rfl) ?_
    refine VO.y rfl (.pF rfl rfl) ?_
    refine VO.kp [102, 0] [(102, mone g1 (.cells [Value.int .i64 (d0.1), Value.int .i64 (d0.2.1), Value.slice p0_A2 (d0.2.2.length) (p0_c2)].toArray 24 (0, 0))), (0, wm W)] ?_
    refine VO.k8 0 1 2 3 4 8 28 36 ?_
    refine VC.cond rfl (fun hc6 => ?_) (fun hc6 => ?_)
    · -- FT
      refine VC.rs ?_
      refine VO.as ?_
      refine VO.k8 0 1 2 3 4 8 28 36 ?_
      refine VC.ret ?_
      refine outR ?_
      refine ⟨_, _, res_run (rs := [.tmp 8]) rfl (.tmp rfl .nil), fun W_ hI => out_of (l := []) hI [] rfl rfl (mle_refl _) (fun hS_ => ?_)⟩
      dsimp only [packV]
      all_goals (first | rfl | (simp [*]; done))
    · -- FF
      refine VC.skip ?_
      refine outN ?_
      refine VC.rs ?_
      refine VO.y rfl (.fa rfl tst24 rfl) ?_
      refine VO.y rfl (.ld1 102 rfl tk22 rfl (cellsAt_one rfl rfl)) ?_
      refine VO.callN 107 rfl fnOk14 rfl (fun W hW => LentCommits_ok W (Rd.mono p0_2 (hW.at (i := 0) rfl)) (by exact fin0_orphanCalls_ok) (by exact (small_room ‹¬ ¬ smallS d0›).2.1)) (fun v7 m7 hv7 => ?_)
      obtain ⟨s7_0, rfl, f7_0⟩ := hv7
      have hfa8 := lent_len d0.2.2
      obtain ⟨A7_0, c7_0, eq7_0, l7_0, k7_0⟩ := f7_0.slice
      subst eq7_0
      simp only [maxLen] at k7_0
      refine VO.mv ?_
      refine VO.callN 109 rfl fnOk15 rfl (fun W hW => LentBytes_ok W (Rd.mono h1 (hW.at (i := 0) rfl)) (by exact fin0_orphanCalls_ok)) (fun v9 m9 hv9 => ?_)
      obtain ⟨s9_0, rfl, f9_0⟩ := hv9
      obtain ⟨A9_0, c9_0, eq9_0, l9_0, k9_0⟩ := f9_0.slice
      subst eq9_0
      simp only [maxLen] at k9_0
      refine VO.as ?_
      refine VO.as ?_
      refine VO.k10 0 1 2 3 4 8 9 10 28 36 ?_
      refine VC.seq ?_
      refine VC.regD _ 11 [(0, true), (1, true), (2, true), (3, true), (4, true), (5, true), (6, true), (7, true), (8, true), (9, true), (10, false)] follows (by kernel_rfl) (fun _ h => h.sub [109, 107, 102, 0]) ?_
      refine VD.y rfl rfl (.inl rfl) (.fa rfl tst24 rfl) ?_
      refine VD.y rfl rfl (.inl rfl) (.ld1 102 rfl tk3 rfl (cellsAt_one rfl rfl)) ?_
      refine VD.y rfl rfl (.inl rfl) (.fa rfl tst24 rfl) ?_
      refine VD.y rfl rfl (.inl rfl) (.ld1 102 rfl tk3 rfl (cellsAt_one rfl rfl)) ?_
      refine VD.y rfl rfl (.inl rfl) (.mv rfl) ?_
      refine VD.y rfl rfl (.inl rfl) (.fa rfl tst24 rfl) ?_
      refine VD.y rfl rfl (.inl rfl) (.ld1 102 rfl tk22 rfl (cellsAt_one rfl rfl)) ?_
      refine VD.y rfl rfl (.inl rfl) (.lenS rfl tsl22) ?_
      have hs10 := (Ow.rd f7_0 (mle_refl _)).pre (j := d0.2.2.length) (by exact fin0_orphanCalls_ok)
      refine VD.y rfl rfl (.inl rfl) (.slHI d0.2.2.length rfl rfl tsl22 rfl (by exact fin0_orphanCalls_ok)) ?_
      refine VD.y rfl rfl (.inl rfl) (.bst (cs := [Value.int .i64 (d0.1), Value.int .i64 (d0.2.1), Value.slice A7_0 (d0.2.2.length) (c7_0)]) rfl tst24 tz24 rfl) ?_
      refine VD.alloc 112 rfl rfl tz24 (fun _ _ h => h.sub [109, 107, 102, 0]) (fun g11 => ?_)
      refine VD.nil rfl ?_ rfl
      refine VO.store (k := 3) (c' := [Value.int .i64 (d0.1), Value.int .i64 (d0.2.1), Value.slice A7_0 (d0.2.2.length) (c7_0)]) 112 rfl rfl (.inl tk24) rfl rfl rfl rfl rfl ?_
      refine VO.k11 0 1 2 3 4 8 9 10 11 28 36 ?_
      refine outN ?_
      refine VC.rs ?_
      refine VO.y rfl (.ldA 112 rfl tk24 rfl (cellsAt_one rfl rfl)) ?_
      refine VO.callN 113 rfl fnOk16 rfl (fun W hW => sectEncode_ok W (show Rd TSection _ _ d0 from (mk_Section (m := wm W) d0.1 d0.2.1 d0.2.2 (by simp only [inK]; (exact fin0_orphanCalls_ok)) (by simp only [inK]; (exact fin0_orphanCalls_ok)) (lent_rd (Ow.rd (f7_0.pre (j := d0.2.2.length) (by exact fin0_orphanCalls_ok)) (hW.at (i := 107) rfl)))))) (fun v13 m13 hv13 => ?_)
      obtain ⟨s13_0, rfl, f13_0⟩ := hv13
      have hfa14 := sectEncode_len d0
      obtain ⟨A13_0, c13_0, eq13_0, l13_0, k13_0⟩ := f13_0.slice
      subst eq13_0
      simp only [maxLen] at k13_0
      refine VO.mv ?_
      refine VO.y rfl (.ext rfl rfl) ?_
      refine VO.y rfl (.ext rfl rfl) ?_
      refine VO.as ?_
      refine VO.as ?_
      refine VO.kp [113, 112, 109, 107, 102, 0] [(113, m13), (112, mone g11 (.cells [Value.int .i64 (d0.1), Value.int .i64 (d0.2.1), Value.slice A7_0 (d0.2.2.length) (c7_0)].toArray 24 (0, 0))), (109, m9), (107, m7), (102, mone g1 (.cells [Value.int .i64 (d0.1), Value.int .i64 (d0.2.1), Value.slice p0_A2 (d0.2.2.length) (p0_c2)].toArray 24 (0, 0))), (0, wm W)] ?_
      refine VO.k13 0 1 2 3 4 8 9 10 11 12 13 28 36 ?_
      refine VC.rs ?_
      refine VO.y rfl (.ldA 102 rfl tk24 rfl (cellsAt_one rfl rfl)) ?_
      refine VO.callN 115 rfl fnOk17 rfl (fun W hW => s19Encode_ok W (Rd.mono h0 (hW.at (i := 0) rfl))) (fun v15 m15 hv15 => ?_)
      obtain ⟨s15_0, rfl, f15_0⟩ := hv15
      have hfa16 := sectEncode_len d0
      obtain ⟨A15_0, c15_0, eq15_0, l15_0, k15_0⟩ := f15_0.slice
      subst eq15_0
      simp only [maxLen] at k15_0
      refine VO.mv ?_
      refine VO.y rfl (.ext rfl rfl) ?_
      refine VO.y rfl (.ext rfl rfl) ?_
      refine VO.as ?_
      refine VO.as ?_
      refine VO.k15 0 1 2 3 4 8 9 10 11 12 13 14 15 28 36 ?_
      refine VC.rs ?_
      refine VO.y rfl (.ldA 112 rfl tk24 rfl (cellsAt_one rfl rfl)) ?_
      refine VO.callN 117 rfl fnOk16 rfl (fun W hW => sectEncode_ok W (show Rd TSection _ _ d0 from (mk_Section (m := wm W) d0.1 d0.2.1 d0.2.2 (by simp only [inK]; (exact fin0_orphanCalls_ok)) (by simp only [inK]; (exact fin0_orphanCalls_ok)) (lent_rd (Ow.rd (f7_0.pre (j := d0.2.2.length) (by exact fin0_orphanCalls_ok)) (hW.at (i := 107) rfl)))))) (fun v17 m17 hv17 => ?_)
      obtain ⟨s17_0, rfl, f17_0⟩ := hv17
      have hfa18 := sectEncode_len d0
      obtain ⟨A17_0, c17_0, eq17_0, l17_0, k17_0⟩ := f17_0.slice
      subst eq17_0
      simp only [maxLen] at k17_0
      refine VO.mv ?_
      refine VO.y rfl (.ext rfl rfl) ?_
      refine VO.y rfl (.ext rfl rfl) ?_
      refine VO.as ?_
      refine VO.as ?_
      refine VO.k16 0 1 2 3 4 8 9 10 11 12 13 14 15 16 28 36 ?_
      refine VC.rs ?_
      refine VO.mv ?_
      refine VO.mv ?_
      refine VO.y rfl (.lenS rfl tsl25) ?_
      have hs19 := (OwnL.rd (Ow.ownl f9_0 rfl mnil) (mle_refl _) (mle_nil _)).pre (j := d1.length) (by exact fin0_orphanCalls_ok)
      rw [List.take_left] at hs19
      refine VO.y rfl (.slHI d1.length rfl rfl tsl25 rfl (by exact fin0_orphanCalls_ok)) ?_
      refine VO.callN 120 rfl fnOk18 rfl (fun W hW => oScan_ok W (OwnL.rd (by have h_ := ((Ow.ownl f9_0 rfl mnil).pre (j := d1.length) (by exact fin0_orphanCalls_ok)); rw [List.take_left] at h_; exact h_) (hW.at (i := 109) rfl) (mle_nil _)) (by exact fin0_orphanCalls_ok)) (fun v20 m20 hv20 => ?_)
      obtain ⟨s20_0, rfl, f20_0⟩ := hv20
      have hfa21 := scanF_bounds d1
      obtain ⟨A20_0, c20_0, eq20_0, l20_0, k20_0⟩ := f20_0.slice
      subst eq20_0
      simp only [maxLen] at k20_0
      refine VO.mv ?_
      refine VO.y rfl (.ext rfl rfl) ?_
      refine VO.y rfl (.ext rfl rfl) ?_
      refine VO.as ?_
      refine VO.as ?_
      refine VO.kp [120, 117, 115, 113, 112, 109, 107, 102, 0] [(120, m20), (117, m17), (115, m15), (113, m13), (112, mone g11 (.cells [Value.int .i64 (d0.1), Value.int .i64 (d0.2.1), Value.slice A7_0 (d0.2.2.length) (c7_0)].toArray 24 (0, 0))), (109, m9), (107, m7), (102, mone g1 (.cells [Value.int .i64 (d0.1), Value.int .i64 (d0.2.1), Value.slice p0_A2 (d0.2.2.length) (p0_c2)].toArray 24 (0, 0))), (0, wm W)] ?_
      refine VO.k18 0 1 2 3 4 8 9 10 11 12 13 14 15 16 18 19 28 36 ?_
      refine VC.rs ?_
      refine VO.mv ?_
      refine VO.mv ?_
      refine VO.y rfl (.lenS rfl tsl25) ?_
      have hs22 := (OwnL.rd (Ow.ownl f9_0 rfl mnil) (mle_refl _) (mle_nil _)).pre (j := d1.length) (by exact fin0_orphanCalls_ok)
      rw [List.take_left] at hs22
      refine VO.y rfl (.slHI d1.length rfl rfl tsl25 rfl (by exact fin0_orphanCalls_ok)) ?_
      refine VO.callN 123 rfl fnOk18 rfl (fun W hW => oScan_ok W (OwnL.rd (by have h_ := ((Ow.ownl f9_0 rfl mnil).pre (j := d1.length) (by exact fin0_orphanCalls_ok)); rw [List.take_left] at h_; exact h_) (hW.at (i := 109) rfl) (mle_nil _)) (by exact fin0_orphanCalls_ok)) (fun v23 m23 hv23 => ?_)
      obtain ⟨s23_0, rfl, f23_0⟩ := hv23
      have hfa24 := scanF_bounds d1
      obtain ⟨A23_0, c23_0, eq23_0, l23_0, k23_0⟩ := f23_0.slice
      subst eq23_0
      simp only [maxLen] at k23_0
      refine VO.mv ?_
      refine VO.y rfl (.ext rfl rfl) ?_
      refine VO.y rfl (.ext rfl rfl) ?_
      refine VO.as ?_
      refine VO.as ?_
      refine VO.k19 0 1 2 3 4 8 9 10 11 12 13 14 15 16 18 19 20 28 36 ?_
      refine VC.rs ?_
      refine VO.mv ?_
      refine VO.callN 125 rfl fnOk19 rfl (fun W hW => s19Scan_ok W (Rd.mono h1 (hW.at (i := 0) rfl)) (by exact fin0_orphanCalls_ok)) (fun v25 m25 hv25 => ?_)
      obtain ⟨s25_0, rfl, f25_0⟩ := hv25
      have hfa26 := scanF_bounds d1
      obtain ⟨A25_0, c25_0, eq25_0, l25_0, k25_0⟩ := f25_0.slice
      subst eq25_0
      simp only [maxLen] at k25_0
      refine VO.mv ?_
      refine VO.y rfl (.ext rfl rfl) ?_
      refine VO.y rfl (.ext rfl rfl) ?_
      refine VO.as ?_
      refine VO.as ?_
      refine VO.k21 0 1 2 3 4 8 9 10 11 12 13 14 15 16 18 19 20 22 23 28 36 ?_
      refine VC.seq ?_
      refine VC.seq ?_
      refine VC.regD _ 38 [(0, true), (2, true), (1, false), (3, false), (4, true), (5, true), (6, true), (7, true), (8, true), (9, true), (10, true), (11, true), (12, true), (13, true), (14, true), (15, true), (16, true), (17, true), (18, false), (19, true), (20, true), (21, true), (22, true), (23, true), (24, false), (25, true), (26, true), (27, true), (28, true), (29, true), (30, true), (31, true), (32, true), (33, true), (35, true), (36, true), (37, true), (34, false)] follows (by kernel_rfl) (fun _ h => h.sub [125, 123, 120, 117, 115, 113, 112, 109, 107, 102, 0]) ?_
      refine VD.y rfl rfl (.inl rfl) (.ldA 112 rfl tk24 rfl (cellsAt_one rfl rfl)) ?_
      refine VD.y rfl rfl (.inl rfl) (.ldA 102 rfl tk24 rfl (cellsAt_one rfl rfl)) ?_
      refine VD.callN 127 rfl rfl (.inl rfl) fnOk9 rfl (fun _ h => h.sub [125, 123, 120, 117, 115, 113, 112, 109, 107, 102, 0]) (fun W hW => sectCheck_ok W (show Rd TSection _ _ d0 from (mk_Section (m := wm W) d0.1 d0.2.1 d0.2.2 (by simp only [inK]; (exact fin0_orphanCalls_ok)) (by simp only [inK]; (exact fin0_orphanCalls_ok)) (lent_rd (Ow.rd (f7_0.pre (j := d0.2.2.length) (by exact fin0_orphanCalls_ok)) (hW.at (i := 107) rfl)))))) (fun v27 m27 hv27 => ?_)
      subst hv27
      have hfa28 := sectCheck_range d0
      refine VD.callN 129 rfl rfl (.inl rfl) fnOk20 rfl (fun _ h => h.sub [125, 123, 120, 117, 115, 113, 112, 109, 107, 102, 0]) (fun W hW => s19Check_ok W (Rd.mono h0 (hW.at (i := 0) rfl))) (fun v29 m29 hv29 => ?_)
      subst hv29
      have hfa30 := sectCheck_range d0
      refine VD.y rfl rfl (.inl rfl) (.neq rfl rfl) ?_
      refine VD.y rfl rfl (.inl rfl) (.mv rfl) ?_
      refine VD.dec (s := 93) rfl (fun hc31 => ?_) (fun hc31 => ?_)
      · -- FFT
        exact absurd rfl hc31
      · -- FFF
        refine VD.y rfl rfl (.inr ⟨_, _, rfl, _, rfl, rfl⟩) (.mv rfl) ?_
        refine VD.y rfl rfl (.inr ⟨_, _, rfl, _, rfl, rfl⟩) (.mv rfl) ?_
        refine VD.y rfl rfl (.inr ⟨_, _, rfl, _, rfl, rfl⟩) (.neq rfl rfl) ?_
        refine VD.y rfl rfl (.inl rfl) (.pF rfl rfl) ?_
        refine VD.y rfl rfl (.inl rfl) (.mv rfl) ?_
        refine VD.dec (s := 98) rfl (fun hc32 => ?_) (fun hc32 => ?_)
        · -- FFFT
          exact absurd rfl hc32
        · -- FFFF
          refine VD.y rfl rfl (.inr ⟨_, _, rfl, _, rfl, rfl⟩) (.mv rfl) ?_
          refine VD.y rfl rfl (.inr ⟨_, _, rfl, _, rfl, rfl⟩) (.mv rfl) ?_
          refine VD.y rfl rfl (.inr ⟨_, _, rfl, _, rfl, rfl⟩) (.neq rfl rfl) ?_
          refine VD.y rfl rfl (.inl rfl) (.pF rfl rfl) ?_
          refine VD.y rfl rfl (.inl rfl) (.mv rfl) ?_
          refine VD.dec (s := 103) rfl (fun hc33 => ?_) (fun hc33 => ?_)
          · -- FFFFT
            exact absurd rfl hc33
          · -- FFFFF
            refine VD.y rfl rfl (.inr ⟨_, _, rfl, _, rfl, rfl⟩) (.mv rfl) ?_
            refine VD.y rfl rfl (.inr ⟨_, _, rfl, _, rfl, rfl⟩) (.mv rfl) ?_
            refine VD.callN 134 rfl rfl (.inr ⟨_, _, rfl, _, rfl, rfl⟩) fnOk21 rfl (fun _ h => h.sub [125, 123, 120, 117, 115, 113, 112, 109, 107, 102, 0]) (fun W hW => SameBytes_ok W (OwnL.rd (Ow.ownl f13_0 rfl mnil) (hW.at (i := 113) rfl) (mle_nil _)) (OwnL.rd (Ow.ownl f15_0 rfl mnil) (hW.at (i := 115) rfl) (mle_nil _))) (fun v34 m34 hv34 => ?_)
            subst hv34
            refine VD.y rfl rfl (.inr ⟨_, _, rfl, _, rfl, rfl⟩) (.notD rfl) ?_
            refine VD.y rfl rfl (.inl rfl) (.pF rfl rfl) ?_
            refine VD.y rfl rfl (.inl rfl) (.mv rfl) ?_
            refine VD.dec (s := 109) rfl (fun hc35 => ?_) (fun hc35 => ?_)
            · -- FFFFFT
              exact absurd rfl hc35
            · -- FFFFFF
              refine VD.y rfl rfl (.inr ⟨_, _, rfl, _, rfl, rfl⟩) (.mv rfl) ?_
              refine VD.y rfl rfl (.inr ⟨_, _, rfl, _, rfl, rfl⟩) (.mv rfl) ?_
              refine VD.callN 136 rfl rfl (.inr ⟨_, _, rfl, _, rfl, rfl⟩) fnOk22 rfl (fun _ h => h.sub [125, 123, 120, 117, 115, 113, 112, 109, 107, 102, 0]) (fun W hW => SameSections_ok W (Ow.rd f20_0 (hW.at (i := 120) rfl)) (Ow.rd f25_0 (hW.at (i := 125) rfl))) (fun v36 m36 hv36 => ?_)
              subst hv36
              refine VD.y rfl rfl (.inr ⟨_, _, rfl, _, rfl, rfl⟩) (.notD rfl) ?_
              refine VD.y rfl rfl (.inl rfl) (.pF rfl rfl) ?_
              refine VD.y rfl rfl (.inl rfl) (.mv rfl) ?_
              refine VD.dec (s := 115) rfl (fun hc37 => ?_) (fun hc37 => ?_)
              · -- FFFFFFT
                exact absurd rfl hc37
              · -- FFFFFFF
                refine VD.y rfl rfl (.inr ⟨_, _, rfl, _, rfl, rfl⟩) (.mv rfl) ?_
                refine VD.y rfl rfl (.inr ⟨_, _, rfl, _, rfl, rfl⟩) (.mv rfl) ?_
                refine VD.y rfl rfl (.inr ⟨_, _, rfl, _, rfl, rfl⟩) (.lenS rfl tsl25) ?_
                have hs38 := (OwnL.rd (Ow.ownl f9_0 rfl mnil) (mle_refl _) (mle_nil _)).pre (j := d1.length) (by exact fin0_orphanCalls_ok)
                rw [List.take_left] at hs38
                refine VD.y rfl rfl (.inr ⟨_, _, rfl, _, rfl, rfl⟩) (.slHI d1.length rfl rfl tsl25 rfl (by exact fin0_orphanCalls_ok)) ?_
                refine VD.y rfl rfl (.inr ⟨_, _, rfl, _, rfl, rfl⟩) (.mv rfl) ?_
                refine VD.y rfl rfl (.inr ⟨_, _, rfl, _, rfl, rfl⟩) (.mv rfl) ?_
                refine VD.y rfl rfl (.inr ⟨_, _, rfl, _, rfl, rfl⟩) (.mv rfl) ?_
                refine VD.y rfl rfl (.inr ⟨_, _, rfl, _, rfl, rfl⟩) (.mv rfl) ?_
                refine VD.y rfl rfl (.inr ⟨_, _, rfl, _, rfl, rfl⟩) (.mv rfl) ?_
                refine VD.callN 139 rfl rfl (.inr ⟨_, _, rfl, _, rfl, rfl⟩) fnOk12 rfl (fun _ h => h.sub [125, 123, 120, 117, 115, 113, 112, 109, 107, 102, 0]) (fun W hW => oHas_ok W (OwnL.rd (by have h_ := ((Ow.ownl f9_0 rfl mnil).pre (j := d1.length) (by exact fin0_orphanCalls_ok)); rw [List.take_left] at h_; exact h_) (hW.at (i := 109) rfl) (mle_nil _)) d2 (by simp only [inK]; (exact fin0_orphanCalls_ok)) d3 (by simp only [inK]; (exact fin0_orphanCalls_ok)) (by exact fin0_orphanCalls_ok)) (fun v39 m39 hv39 => ?_)
                subst hv39
                refine VD.nil rfl ?_ rfl
                refine VO.gcallN 140 rfl ⟨_, rfl, rfl⟩ fnOk23 rfl (fun W hW => s19Has_ok W (Rd.mono h1 (hW.at (i := 0) rfl)) d2 (by simp only [inK]; (exact fin0_orphanCalls_ok)) d3 (by simp only [inK]; (exact fin0_orphanCalls_ok)) (by exact fin0_orphanCalls_ok)) (fun v40 m40 hv40 => ?_)
                subst hv40
                refine VO.gy rfl ⟨_, rfl, rfl⟩ (.bneq rfl rfl Try.underlying4) ?_
                refine VO.y rfl (.pF rfl rfl) ?_
                refine VO.kp [125, 123, 120, 117, 115, 113, 112, 109, 107, 102, 0] [(125, m25), (123, m23), (120, m20), (117, m17), (115, m15), (113, m13), (112, mone g11 (.cells [Value.int .i64 (d0.1), Value.int .i64 (d0.2.1), Value.slice A7_0 (d0.2.2.length) (c7_0)].toArray 24 (0, 0))), (109, m9), (107, m7), (102, mone g1 (.cells [Value.int .i64 (d0.1), Value.int .i64 (d0.2.1), Value.slice p0_A2 (d0.2.2.length) (p0_c2)].toArray 24 (0, 0))), (0, wm W)] ?_
                refine VO.k22 0 1 2 3 4 8 9 10 11 12 13 14 15 16 18 19 20 22 23 28 36 128 ?_
                refine outN ?_
                refine VC.cond rfl (fun hc41 => ?_) (fun hc41 => ?_)
                · -- FFFFFFFT
                  exact absurd rfl hc41
                · -- FFFFFFFF
                  refine VC.skip ?_
                  refine outN ?_
                  refine VC.rs ?_
                  refine VO.as ?_
                  refine VO.k23 0 1 2 3 4 8 9 10 11 12 13 14 15 16 18 19 20 22 23 24 28 36 128 ?_
                  refine VC.seq ?_
                  refine VC.rs ?_
                  refine VO.mv ?_
                  refine VO.mv ?_
                  refine VO.appOs (e := TSection) 120 123 rfl rfl rfl tsl41 tz24 rfl rfl rfl f20_0 f23_0 Try.underlying41 (by simp only [maxLen]; (exact fin0_orphanCalls_ok)) (by exact fin0_orphanCalls_ok) (by decide) (fun v42 m42 ho42 => ?_)
                  obtain ⟨A42, c42, rfl, l42, k42⟩ := ho42.slice
                  simp only [maxLen] at k42
                  obtain ⟨hss, ml, mo, hdj, hml, hmo, hL, hF, hO⟩ := Ow.peelL (e := TCommit) ho42
                  have hlh := hF.len
                  have hSpl : Seps (m42) [ml, mo] := .two hdj hml hmo
                  refine VO.inv _ (fun _ h => h.parts (i := 120) rfl hSpl [120, 143]) ?_
                  refine VO.y rfl (.lenS rfl tsl41) ?_
                  refine VO.mv ?_
                  refine VO.esub [(0, _), (1, _), (2, _), (3, _), (4, _), (8, _), (9, _), (10, _), (11, _), (12, _), (13, _), (14, _), (15, _), (16, _), (18, _), (19, _), (20, _), (22, _), (23, _), (24, _), (28, _), (36, _), (128, _), (131, _), (132, _), (133, _)] ⟨rfl, rfl, rfl, rfl, rfl, rfl, rfl, rfl, rfl, rfl, rfl, rfl, rfl, rfl, rfl, rfl, rfl, rfl, rfl, rfl, rfl, rfl, rfl, rfl, rfl, rfl, trivial⟩ (VO.nil ?_)
                  refine VC.block ?_
                  refine VC.inv ((144, mnil) :: _) (fun _ h => h.nilc 144) ?_
                  refine VC.loop (G := Nat × (List Hd) × (Option Addr) × Nat × Mem) (fun g => [(24, Value.slice (g.2.2.1) ((g.2.1).length) ((g.2.2.2.1))), (133, Value.int .i64 ((((g.1) : Nat) : Int))), (0, Value.agg [Value.int .i64 (d0.1), Value.int .i64 (d0.2.1), Value.slice p0_A2 (d0.2.2.length) (p0_c2)].toArray), (1, Value.slice A1 (d1.length) (c1)), (2, Value.int .i64 (d2)), (3, Value.int .i64 (d3)), (4, Value.pointer (some ⟨g1, 0, none⟩)), (8, Value.bool false), (9, Value.slice A7_0 ((d0.2.2.map lentC ++ spareC).length) (c7_0)), (10, Value.slice A9_0 ((d1 ++ spareB).length) (c9_0)), (11, Value.pointer (some ⟨g11, 0, none⟩)), (12, Value.slice A13_0 (((sectEncode d0).1).length) (c13_0)), (13, Value.int .i64 ((sectEncode d0).2)), (14, Value.slice A15_0 (((sectEncode d0).1).length) (c15_0)), (15, Value.int .i64 ((sectEncode d0).2)), (16, Value.slice A17_0 (((sectEncode d0).1).length) (c17_0)), (18, Value.slice A20_0 (((scanF d1).1).length) (c20_0)), (19, Value.int .i64 ((scanF d1).2)), (20, Value.slice A23_0 (((scanF d1).1).length) (c23_0)), (22, Value.slice A25_0 (((scanF d1).1).length) (c25_0)), (23, Value.int .i64 ((scanF d1).2)), (28, Value.bool false), (36, Value.bool (decide (4000 < ((d1.length : Nat) : Int)))), (128, Value.bool (decide (¬ (hasS (scanF d1).1 d2 d3) = (hasS (scanF d1).1 d2 d3)))), (131, Value.slice A42 ((((scanF d1).1) ++ ((scanF d1).1)).length) (c42)), (132, Value.int .i64 ((((((scanF d1).1) ++ ((scanF d1).1)).length : Nat) : Int)))]) (fun g => [(144, (g.2.2.2.2)), (120, ml), (143, mo), (125, m25), (117, m17), (115, m15), (113, m13), (112, mone g11 (.cells [Value.int .i64 (d0.1), Value.int .i64 (d0.2.1), Value.slice A7_0 (d0.2.2.length) (c7_0)].toArray 24 (0, 0))), (109, m9), (107, m7), (102, mone g1 (.cells [Value.int .i64 (d0.1), Value.int .i64 (d0.2.1), Value.slice p0_A2 (d0.2.2.length) (p0_c2)].toArray 24 (0, 0))), (0, wm W)]) (fun g => ((g.1) ≤ hss.length) ∧ ((g.2.1) = (hss.take (g.1)).map hdO) ∧ (OwnL .hdr (g.2.2.2.2) mnil (.slice (g.2.2.1) (g.2.1).length (g.2.2.2.1)) (g.2.1))) (fun g => hss.length - (g.1)) (0, [], none, 0, mnil) (⟨by omega, by rfl, (OwnL.nil .hdr mnil mnil)⟩) ⟨⟨rfl, rfl, rfl, rfl, rfl, rfl, rfl, rfl, rfl, rfl, rfl, rfl, rfl, rfl, rfl, rfl, rfl, rfl, rfl, rfl, rfl, rfl, rfl, rfl, rfl, rfl, trivial⟩, fun _ h => h.sub [144, 120, 143, 125, 117, 115, 113, 112, 109, 107, 102, 0]⟩ ?_
                  rintro ⟨k, all, all_A, all_c, all_m⟩ ⟨hk, ho, h_all⟩
                  replace hk : k ≤ hss.length := hk
                  replace ho : all = (hss.take k).map hdO := ho
                  replace h_all : OwnL .hdr all_m mnil (.slice all_A all.length all_c) all := h_all
                  show VC _ _ _ _ _ [(24, Value.slice all_A (all.length) (all_c)), (133, Value.int .i64 (((k : Nat) : Int))), (0, Value.agg [Value.int .i64 (d0.1), Value.int .i64 (d0.2.1), Value.slice p0_A2 (d0.2.2.length) (p0_c2)].toArray), (1, Value.slice A1 (d1.length) (c1)), (2, Value.int .i64 (d2)), (3, Value.int .i64 (d3)), (4, Value.pointer (some ⟨g1, 0, none⟩)), (8, Value.bool false), (9, Value.slice A7_0 ((d0.2.2.map lentC ++ spareC).length) (c7_0)), (10, Value.slice A9_0 ((d1 ++ spareB).length) (c9_0)), (11, Value.pointer (some ⟨g11, 0, none⟩)), (12, Value.slice A13_0 (((sectEncode d0).1).length) (c13_0)), (13, Value.int .i64 ((sectEncode d0).2)), (14, Value.slice A15_0 (((sectEncode d0).1).length) (c15_0)), (15, Value.int .i64 ((sectEncode d0).2)), (16, Value.slice A17_0 (((sectEncode d0).1).length) (c17_0)), (18, Value.slice A20_0 (((scanF d1).1).length) (c20_0)), (19, Value.int .i64 ((scanF d1).2)), (20, Value.slice A23_0 (((scanF d1).1).length) (c23_0)), (22, Value.slice A25_0 (((scanF d1).1).length) (c25_0)), (23, Value.int .i64 ((scanF d1).2)), (28, Value.bool false), (36, Value.bool (decide (4000 < ((d1.length : Nat) : Int)))), (128, Value.bool (decide (¬ (hasS (scanF d1).1 d2 d3) = (hasS (scanF d1).1 d2 d3)))), (131, Value.slice A42 ((((scanF d1).1) ++ ((scanF d1).1)).length) (c42)), (132, Value.int .i64 ((((((scanF d1).1) ++ ((scanF d1).1)).length : Nat) : Int)))] [(144, all_m), (120, ml), (143, mo), (125, m25), (117, m17), (115, m15), (113, m13), (112, mone g11 (.cells [Value.int .i64 (d0.1), Value.int .i64 (d0.2.1), Value.slice A7_0 (d0.2.2.length) (c7_0)].toArray 24 (0, 0))), (109, m9), (107, m7), (102, mone g1 (.cells [Value.int .i64 (d0.1), Value.int .i64 (d0.2.1), Value.slice p0_A2 (d0.2.2.length) (p0_c2)].toArray 24 (0, 0))), (0, wm W)]
                  have l_all : all.length ≤ all_c := by obtain ⟨_, _, he, hl, _⟩ := h_all.slice; simp only [Value.slice.injEq] at he; omega
                  have k_all : all_c ≤ 9223372036854775807 := by obtain ⟨_, _, he, _, hl⟩ := h_all.slice; simp only [Value.slice.injEq, maxLen] at he hl; omega
                  have hao : all.length ≤ k := by rw [ho]; simp; omega
                  refine VC.rs ?_
                  refine VO.y rfl (.lss rfl rfl) ?_
                  refine VO.kp [144, 120, 143, 125, 117, 115, 113, 112, 109, 107, 102, 0] [(144, all_m), (120, ml), (143, mo), (125, m25), (117, m17), (115, m15), (113, m13), (112, mone g11 (.cells [Value.int .i64 (d0.1), Value.int .i64 (d0.2.1), Value.slice A7_0 (d0.2.2.length) (c7_0)].toArray 24 (0, 0))), (109, m9), (107, m7), (102, mone g1 (.cells [Value.int .i64 (d0.1), Value.int .i64 (d0.2.1), Value.slice p0_A2 (d0.2.2.length) (p0_c2)].toArray 24 (0, 0))), (0, wm W)] ?_
                  refine VO.esub [(0, _), (1, _), (2, _), (3, _), (4, _), (8, _), (9, _), (10, _), (11, _), (12, _), (13, _), (14, _), (15, _), (16, _), (18, _), (19, _), (20, _), (22, _), (23, _), (24, _), (28, _), (36, _), (128, _), (131, _), (132, _), (133, _), (134, _)] ⟨rfl, rfl, rfl, rfl, rfl, rfl, rfl, rfl, rfl, rfl, rfl, rfl, rfl, rfl, rfl, rfl, rfl, rfl, rfl, rfl, rfl, rfl, rfl, rfl, rfl, rfl, rfl, trivial⟩ (VO.nil ?_)
                  refine VC.seq ?_
                  refine VC.cond rfl (fun hc45 => ?_) (fun hc45 => ?_)
                  · -- FFFFFFFFT
                    refine VC.skip ?_
                    refine outN ?_
                    refine VC.seq ?_
                    refine VC.block ?_
                    refine VC.rs ?_
                    obtain ⟨x46, hx46⟩ : ∃ z_, (hss)[k]? = some z_ := ⟨_, List.getElem?_eq_getElem (by exact fin0_orphanCalls_ok)⟩
                    obtain ⟨gg46, oo46, ec46, ea46, hce46, hre46⟩ := (Ow.rd hL (mle_refl _)).elem hx46
                    cases ea46
                    obtain ⟨rfl, q46_0, q46_1⟩ := open_HC (x0 := x46.1) (x1 := x46.2.1) (x2 := x46.2.2) hre46
                    simp only [inK] at q46_0
                    simp only [inK] at q46_1
                    refine VO.y rfl (.ixI k rfl rfl tsl41 rfl (by exact fin0_orphanCalls_ok)) ?_
                    refine VO.y rfl (.ldA 120 rfl tk24 rfl hce46) ?_
                    refine VO.alloc 148 rfl tz24 (fun g47 => ?_)
                    refine VO.store (k := 3) (c' := [Value.int .i64 (x46.1), Value.int .i64 (x46.2.1), Value.slice x46.2.2.1 (x46.2.2.2.1) (x46.2.2.2.2)]) 148 rfl rfl (.inl tk24) rfl rfl rfl rfl rfl ?_
                    refine VO.esub [(0, _), (1, _), (2, _), (3, _), (4, _), (8, _), (9, _), (10, _), (11, _), (12, _), (13, _), (14, _), (15, _), (16, _), (18, _), (19, _), (20, _), (22, _), (23, _), (24, _), (26, _), (28, _), (36, _), (128, _), (131, _), (132, _), (133, _), (134, _)] ⟨rfl, rfl, rfl, rfl, rfl, rfl, rfl, rfl, rfl, rfl, rfl, rfl, rfl, rfl, rfl, rfl, rfl, rfl, rfl, rfl, rfl, rfl, rfl, rfl, rfl, rfl, rfl, rfl, trivial⟩ (VO.nil ?_)
                    refine VC.reg ?_
                    refine VO.mv ?_
                    refine VO.y rfl (.fa rfl tst24 rfl) ?_
                    refine VO.y rfl (.ld1 148 rfl tk22 rfl (cellsAt_one rfl rfl)) ?_
                    refine VO.bsl (cs := [Value.slice x46.2.2.1 (x46.2.2.2.1) (x46.2.2.2.2)]) 150 rfl rfl tsl46 tz22 rfl rfl (fun g49 => ?_)
                    obtain ⟨mo51, cs51, hM51, hA51, hC51⟩ := h_all
                    refine VO.app 144 rfl rfl rfl tsl46 tz22 rfl rfl hM51 hA51 (.row 150 _ _ _ 1 1 _ _ Try.underlying46 rfl (cellsAt_one rfl rfl)) (by simp [Value.oneCell']) (by simp only [maxLen]; (exact fin0_orphanCalls_ok)) (by exact fin0_orphanCalls_ok) (by decide) (fun v51 m51 hN51 => ?_)
                    have ho51 : OwnL .hdr m51 mnil v51 (all ++ [x46.2.2]) := OwnL.one hC51 hN51 (show Rd .hdr _ [_] _ from rfl)
                    obtain ⟨A51, c51, rfl, l51, k51⟩ := ho51.slice
                    simp only [maxLen] at k51
                    refine VO.as ?_
                    refine VO.esub [(0, _), (1, _), (2, _), (3, _), (4, _), (8, _), (9, _), (10, _), (11, _), (12, _), (13, _), (14, _), (15, _), (16, _), (18, _), (19, _), (20, _), (22, _), (23, _), (24, _), (26, _), (28, _), (36, _), (128, _), (131, _), (132, _), (133, _), (134, _)] ⟨rfl, rfl, rfl, rfl, rfl, rfl, rfl, rfl, rfl, rfl, rfl, rfl, rfl, rfl, rfl, rfl, rfl, rfl, rfl, rfl, rfl, rfl, rfl, rfl, rfl, rfl, rfl, rfl, trivial⟩ (VO.nil ?_)
                    refine outBN ?_
                    refine outN ?_
                    refine VC.reg ?_
                    refine VO.y rfl (.add (c := ((k + 1 : Nat) : Int)) rfl rfl (by omega) ⟨by exact fin0_orphanCalls_ok, by exact fin0_orphanCalls_ok⟩) ?_
                    refine VO.mv ?_
                    refine VO.kp [148, 144, 120, 143, 125, 117, 115, 113, 112, 109, 107, 102, 0] [(148, mone g47 (.cells [Value.int .i64 (x46.1), Value.int .i64 (x46.2.1), Value.slice x46.2.2.1 (x46.2.2.2.1) (x46.2.2.2.2)].toArray 24 (0, 0))), (144, m51), (120, ml), (143, mo), (125, m25), (117, m17), (115, m15), (113, m13), (112, mone g11 (.cells [Value.int .i64 (d0.1), Value.int .i64 (d0.2.1), Value.slice A7_0 (d0.2.2.length) (c7_0)].toArray 24 (0, 0))), (109, m9), (107, m7), (102, mone g1 (.cells [Value.int .i64 (d0.1), Value.int .i64 (d0.2.1), Value.slice p0_A2 (d0.2.2.length) (p0_c2)].toArray 24 (0, 0))), (0, wm W)] ?_
                    refine VO.esub [(0, _), (1, _), (2, _), (3, _), (4, _), (8, _), (9, _), (10, _), (11, _), (12, _), (13, _), (14, _), (15, _), (16, _), (18, _), (19, _), (20, _), (22, _), (23, _), (24, _), (26, _), (28, _), (36, _), (128, _), (131, _), (132, _), (133, _), (134, _)] ⟨rfl, rfl, rfl, rfl, rfl, rfl, rfl, rfl, rfl, rfl, rfl, rfl, rfl, rfl, rfl, rfl, rfl, rfl, rfl, rfl, rfl, rfl, rfl, rfl, rfl, rfl, rfl, rfl, trivial⟩ (VO.nil ?_)
                    exact outN ⟨⟨k + 1, all ++ [x46.2.2], A51, c51, m51⟩, ⟨by omega, by (rw [ho, take_one ‹hss[k]? = some _›, List.map_append]; rfl), ho51⟩, by exact fin0_orphanCalls_ok, ⟨⟨rfl, rfl, rfl, rfl, rfl, rfl, rfl, rfl, rfl, rfl, rfl, rfl, rfl, rfl, rfl, rfl, rfl, rfl, rfl, rfl, rfl, rfl, rfl, rfl, rfl, rfl, trivial⟩, fun _ h => Inv.sub h [144, 120, 143, 125, 117, 115, 113, 112, 109, 107, 102, 0]⟩⟩
                  · -- FFFFFFFFF
                    refine VC.exit ?_
                    refine outE ?_
                    refine outE ?_
                    refine outBB ?_
                    refine outN ?_
                    refine VC.rs ?_
                    refine VO.mv ?_
                    refine VO.y rfl (.fa rfl tst24 rfl) ?_
                    refine VO.y rfl (.ld1 102 rfl tk22 rfl (cellsAt_one rfl rfl)) ?_
                    refine VO.callN 152 rfl fnOk24 rfl (fun W hW => KeptCommits_ok W (Ow.rd f7_0 (hW.at (i := 107) rfl)) (Rd.mono p0_2 (hW.at (i := 0) rfl)) (by rfl) (by exact fin0_orphanCalls_ok) (by exact (small_room ‹¬ ¬ smallS d0›).2.1)) (fun v52 m52 hv52 => ?_)
                    subst hv52
                    refine VO.mv ?_
                    refine VO.gy rfl ⟨_, rfl, rfl⟩ (.mv rfl) ?_
                    refine VO.gy rfl ⟨_, rfl, rfl⟩ (.mv rfl) ?_
                    refine VO.gcallN 153 rfl ⟨_, rfl, rfl⟩ fnOk25 rfl (fun W hW => KeptBytes_ok W (OwnL.rd (Ow.ownl f9_0 rfl mnil) (hW.at (i := 109) rfl) (mle_nil _)) (Rd.mono h1 (hW.at (i := 0) rfl)) (by exact fin0_orphanCalls_ok)) (fun v53 m53 hv53 => ?_)
                    subst hv53
                    refine VO.y rfl (.pT rfl rfl) ?_
                    refine VO.mv ?_
                    refine VO.dec (t := 152) rfl (fun hc54 => ?_) (fun hc54 => ?_)
                    · -- FFFFFFFFFT
                      refine VO.gy rfl ⟨_, rfl, rfl⟩ (.mv rfl) ?_
                      refine VO.gy rfl ⟨_, rfl, rfl⟩ (.mv rfl) ?_
                      refine VO.gy rfl ⟨_, rfl, rfl⟩ (.mv rfl) ?_
                      refine VO.gbsl (cs := [Value.slice A13_0 (((sectEncode d0).1).length) (c13_0), Value.slice A17_0 (((sectEncode d0).1).length) (c17_0), Value.slice A9_0 ((d1 ++ spareB).length) (c9_0)]) 156 rfl ⟨_, rfl, rfl⟩ rfl tsl49 tz25 rfl rfl (fun g55 => ?_)
                      refine VO.gather (l := [mone g55 (.cells [Value.slice A13_0 (((sectEncode d0).1).length) (c13_0), Value.slice A17_0 (((sectEncode d0).1).length) (c17_0), Value.slice A9_0 ((d1 ++ spareB).length) (c9_0)].toArray 25 (0, 0)), m13, m17, m9]) 159 [156, 113, 117, 109] rfl (fun hg58 => ?_)
                      have ho58 : Ow (.sl (.sl .byte)) (muns [mone g55 (.cells [Value.slice A13_0 (((sectEncode d0).1).length) (c13_0), Value.slice A17_0 (((sectEncode d0).1).length) (c17_0), Value.slice A9_0 ((d1 ++ spareB).length) (c9_0)].toArray 25 (0, 0)), m13, m17, m9]) [Value.slice (some ⟨g55, 0, none⟩) (3) (3)] [(sectEncode d0).1, (sectEncode d0).1, d1 ++ spareB] := Ow.lit 3 (Seps.grp1 (ls := [[m13], [m17], [m9]]) hg58) (OwAs.cons (m := muns [m13]) (c1 := [Value.slice A13_0 (((sectEncode d0).1).length) (c13_0)]) (Ow.up (OwnL.ow (Ow.ownl f13_0 rfl mnil) rfl) ((Seps.self hg58 (List.Sublist.cons _ (List.Sublist.cons_cons _ (List.Sublist.cons _ (List.Sublist.cons _ List.Sublist.slnil))))).1 _ (.head _))) (OwAs.cons (m := muns [m17]) (c1 := [Value.slice A17_0 (((sectEncode d0).1).length) (c17_0)]) (Ow.up (OwnL.ow (Ow.ownl f17_0 rfl mnil) rfl) ((Seps.self hg58 (List.Sublist.cons _ (List.Sublist.cons _ (List.Sublist.cons_cons _ (List.Sublist.cons _ List.Sublist.slnil))))).1 _ (.head _))) (OwAs.cons (m := muns [m9]) (c1 := [Value.slice A9_0 ((d1 ++ spareB).length) (c9_0)]) (Ow.up (OwnL.ow (Ow.ownl f9_0 rfl mnil) rfl) ((Seps.self hg58 (List.Sublist.cons _ (List.Sublist.cons _ (List.Sublist.cons _ (List.Sublist.cons_cons _ List.Sublist.slnil))))).1 _ (.head _))) OwAs.nil))) rfl rfl
                      refine VO.gcall 159 rfl ⟨_, rfl, rfl⟩ fnOk26 rfl rfl (fun W hW => ApartBytes_ok W (hW.at (i := 159) rfl) ho58 (by exact fin0_orphanCalls_ok) (by exact three_b ((small_room ‹¬ ¬ smallS d0›).2.2) ((small_room ‹¬ ¬ smallS d0›).2.2) (by rw [List.length_append]; have h_ : spareB.length = 3 := rfl; omega))) (fun v57 m57 hv57 => ?_)
                      subst hv57
                      refine VO.y rfl (.pT rfl rfl) ?_
                      refine VO.mv ?_
                      refine VO.gy rfl ⟨_, rfl, rfl⟩ (.mv rfl) ?_
                      refine VO.gather (l := [all_m, mo]) 161 [144, 143] rfl (fun hg60 => ?_)
                      have hops : Ow (.sl (.sl TCommit)) (muns [all_m, mo]) [Value.slice all_A (all.length) (all_c)] (((scanF d1).1 ++ (scanF d1).1).map fun x => x.2.2) := Ow.mkOps hg60 (OwnL.ow h_all rfl) (by have e_ : all = hss.map hdO := (by (rw [ho, List.take_of_length_le (by omega)]; done)); rw [e_, List.map_map]; exact hO)
                      refine VO.gcall 161 rfl ⟨_, rfl, rfl⟩ fnOk27 rfl rfl (fun W hW => ApartCommits_ok W (hW.at (i := 161) rfl) hops (by exact two_scan_0 (by omega)) (by exact two_scan_1 d1) (by exact two_scan_2 (by omega)) (by exact two_scan_3 d1)) (fun v62 m62 hv62 => ?_)
                      subst hv62
                      refine VO.y rfl (.pT rfl rfl) ?_
                      refine VO.as ?_
                      refine VO.esub [(0, _), (1, _), (2, _), (3, _), (4, _), (8, _), (9, _), (10, _), (11, _), (12, _), (13, _), (14, _), (15, _), (16, _), (18, _), (19, _), (20, _), (22, _), (23, _), (24, _), (28, _), (36, _), (128, _), (131, _), (132, _), (133, _), (134, _)] ⟨rfl, rfl, rfl, rfl, rfl, rfl, rfl, rfl, rfl, rfl, rfl, rfl, rfl, rfl, rfl, rfl, rfl, rfl, rfl, rfl, rfl, rfl, rfl, rfl, rfl, rfl, rfl, trivial⟩ (VO.nil ?_)
                      refine VC.ret ?_
                      refine ⟨_, _, res_run (rs := [.tmp 8]) rfl (.tmp rfl .nil), fun W_ hI => out_of (l := []) hI [] rfl rfl (mle_refl _) (fun hS_ => ?_)⟩
                      dsimp only [packV]
                      all_goals (first | rfl | (simp [*]; done))
                    · -- FFFFFFFFFF
                      exact absurd rfl hc54
end
section
set_option linter.unusedVariables false
set_option maxRecDepth 4000
open Go.ChangeShapes Go.WideShapes Go.ChangeAt Go.RowKit
theorem orphanCalls_ok0 : tyOk Try.prog 60 TSection (.inl 24) = true := by kernel_rfl
theorem orphanCalls_ok1 : tyOk Try.prog 60 (.sl .byte) (.inl 25) = true := by kernel_rfl
set_option maxRecDepth 100000 in
theorem orphanCalls_lifted (os : Os) (started : os.Started) (H : Type) (enc : TypeId × Value → H) :
    ReturnsInHanded {} Try.checked os 4 .any (Rows.orphanCallsSpec.pre6 enc Try.prog Try.f4 Rows.orphanCallsRow.domain false) (Rows.orphanCallsSpec.post enc Try.prog Try.f4 false true false false) := by
  refine returnsInHanded_of_change_sized (C := Try.checked) (by kernel_rfl) started (by kernel_rfl) Try.func4
    (ChangeSpec.witness6 (enc := enc) (C := Try.checked) false ⟨#[], #[.agg #[.int .i64 0, .int .i64 0, .slice none 0 0], .slice none 0 0, .int .i64 0, .int .i64 0], []⟩ 8 (by kernel_rfl) (by kernel_rfl) (by kernel_rfl) (by kernel_rfl)) ?_
  intro W base args ds gs before hval0 hW hcnd hsz0 _
  have hsz : (DataW.weightsEach Try.prog (Try.f4.params.toList ++ Rows.orphanCallsSpec.plain.varTypes Try.prog) (ds ++ gs)).all (· ≤ reachBytes) = true := hsz0
  have hval : ∀ (j : Nat) t v, Try.f4.params[j]? = some t → args[j]? = some v → Value.okWide Try.prog W .any base t v := hval0
  have hW' := hW
  obtain ⟨p, q, hA0, hV, rfl, hfz, hnd⟩ := hW
  have hA : DataW.TrodAll enc Try.prog W 0 (fun _ => true) true Try.f4.params.toList args.toList ds p := hA0
  rw [Try.params4] at hA hval hsz
  clear hA0 hval0
  obtain ⟨args⟩ := args
  obtain ⟨v0, r0, d0, e0, p0, q0, ha0, rfl, rfl, h0, hA0⟩ := trodAll_cons hA
  simp only at ha0; subst ha0
  obtain ⟨v1, r1, d1, e1, p1, q1, ha1, rfl, rfl, h1, hA1⟩ := trodAll_cons hA0
  subst ha1
  obtain ⟨v2, r2, d2, e2, p2, q2, ha2, rfl, rfl, h2, hA2⟩ := trodAll_cons hA1
  subst ha2
  obtain ⟨v3, r3, d3, e3, p3, q3, ha3, rfl, rfl, h3, hA3⟩ := trodAll_cons hA2
  subst ha3
  obtain ⟨rfl, rfl, rfl⟩ := trodAll_nil hA3
  obtain ⟨c0, x0, rfl, hx0, fit0⟩ := arg_stF (j := 0) 60 orphanCalls_ok0 Try.underlying24 (hval 0 24 v0 rfl rfl) h0 hsz rfl rfl
  obtain ⟨x1, hx1⟩ := arg_sl 60 orphanCalls_ok1 Try.underlying25 (hval 1 25 v1 rfl rfl) h1
  obtain ⟨x2, rfl, hx2⟩ := arg_int Try.underlying3 (hval 2 3 v2 rfl rfl) h2
  obtain ⟨x3, rfl, hx3⟩ := arg_int Try.underlying3 (hval 3 3 v3 rfl rfl) h3
  refine (calls_of (orphanCalls_ok W hx0 hx1 x2 hx2 x3 hx3 (by exact fun c hc o ho => txt_fit ((fit0.2.2.2 c hc).2.2.2 o ho).2.1))).mono fun e W' ⟨he, hg⟩ => ?_
  subst he
  exact ⟨_, rfl, law_post hW' hg laidOut_ok (by kernel_rfl) rfl Try.underlying4 rfl rfl rfl rfl⟩
theorem orphanCalls_joined : joinedFacts Try.prog 4 Try.f4 Rows.orphanCallsSpec Rows.orphanCallsRow = true := by
  unfold joinedFacts
  rw [laidOut_ok, mapsRowed_ok, stopsHeard_ok, mayEnter_ok, lifts_ok, make_ok]
  kernel_rfl
theorem orphanCalls_proved : Rows.OrphanCallsSaid :=
  OpenClaim.holds_of_wide 4 Try.f4 rfl rfl rfl rfl rfl rfl rfl ⟨rfl, rfl, rfl, rfl, rfl⟩ rfl rfl rfl rfl rfl (by kernel_rfl) Try.func4 orphanCalls_joined
    (of_decide_eq_true (by kernel_rfl)) (by unfold Func.isWrapper; first | (rw [if_pos (by decide +kernel)]; kernel_rfl) | (rw [if_neg (by decide +kernel)]; exact ⟨rfl, rfl⟩))
    (fun os started H enc _ => orphanCalls_lifted os started H enc)
#print axioms orphanCalls_proved
end
end Go.Proofs.Ytbjkfnnabnacfaa
