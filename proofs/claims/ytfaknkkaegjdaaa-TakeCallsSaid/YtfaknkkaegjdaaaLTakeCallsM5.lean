/- Part 5 of the proof of LTakeCalls: what it needs of the library, the walks and the plain laws. Conditions: those named in each theorem. -/
import Derived.Test.YtfaknkkaegjdaaaLTakeCallsM4
namespace Go.Proofs.Ytfaknkkaegjdaaa
section
set_option linter.unusedVariables false
set_option linter.unusedSimpArgs false
set_option maxRecDepth 4000
theorem fnOk83 : fnOk Try.prog 83 = true := by kernel_rfl
theorem fnOk84 : fnOk Try.prog 84 = true := by kernel_rfl
theorem fnOk85 : fnOk Try.prog 85 = true := by kernel_rfl
theorem fnOk86 : fnOk Try.prog 86 = true := by kernel_rfl
set_option maxHeartbeats 1000000 in
theorem takeCalls_ok (W : World) (d0 : Int) (h0 : inK .i64 d0) {v1 : Value} {d1 : List DCommit} (h1 : Rd (.sl TCommit) (wm W) [v1] d1) {v2 : List Value} {d2 : DMessage} (h2 : Rd TMessage (wm W) v2 d2) (d3 : Int) (h3 : inK .i64 d3) (e0 : ∀ c ∈ d1, ∀ o ∈ c.2.2, o.2.1.length ≤ 140737488400000) (e1 : ∀ c ∈ d2.2.2.2.2.2.2.2, ∀ o ∈ c.2.2, o.2.1.length ≤ 140737488400000) : CallR Try.prog 18 [.int .i64 d0, v1, .agg v2.toArray, .int .i64 d3] W (mnil) (fun v m' => v = .bool true) := by
  have h0' := h0; simp only [inK] at h0'
  obtain ⟨A1, c1, rfl, l1, k1⟩ := h1.slice
  simp only [maxLen] at k1
  obtain ⟨p2_A4, p2_c4, p2_A7, p2_c7, rfl, p2_0, p2_1, p2_2, p2_3, p2_4, p2_5, p2_6, p2_7⟩ := open_Message (x0 := d2.1) (x1 := d2.2.1) (x2 := d2.2.2.1) (x3 := d2.2.2.2.1) (x4 := d2.2.2.2.2.1) (x5 := d2.2.2.2.2.2.1) (x6 := d2.2.2.2.2.2.2.1) (x7 := d2.2.2.2.2.2.2.2) h2
  simp only [inK] at p2_0
  simp only [inK] at p2_1
  simp only [inK] at p2_2
  simp only [inK] at p2_3
  have p2_r4 := Rd.room p2_4
  simp only [inK] at p2_5
  simp only [inK] at p2_6
  have p2_r7 := Rd.room p2_7
  have h3' := h3; simp only [inK] at h3'
  refine CallR.ofA (n := 133) Try.func18 rfl rfl rfl ?_
  refine VC.rs ?_
  refine VO.box (cs := [Value.int .i64 (d2.1), Value.int .i64 (d2.2.1), Value.int .u8 (d2.2.2.1), Value.int .i64 (d2.2.2.2.1), Value.slice p2_A4 (d2.2.2.2.2.1.length) (p2_c4), Value.int .i64 (d2.2.2.2.2.2.1), Value.int .i64 (d2.2.2.2.2.2.2.1), Value.slice p2_A7 (d2.2.2.2.2.2.2.2.length) (p2_c7)]) 102 rfl rfl rfl (fun g1 => ?_)
  refine VO.as ?_
  refine VO.k6 0 1 2 3 6 8 ?_
  refine VC.seq ?_
  refine VC.rs ?_
  refine VO.callN 103 rfl fnOk81 rfl (fun W hW => lives18_ok W ) (fun v3 m3 hv3 => ?_)
  subst hv3
  refine VO.y rfl (.not rfl) ?_
  refine VO.k7 0 1 2 3 6 8 24 ?_
  refine VC.condF rfl ?_
  refine VC.skip ?_
  refine outN ?_
  refine VC.seq ?_
  refine VC.rs ?_
  refine VO.mv ?_
  refine VO.callN 104 rfl fnOk82 rfl (fun W hW => small18_ok W (Rd.mono h1 (hW.at (i := 0) rfl))) (fun v4 m4 hv4 => ?_)
  subst hv4
  refine VO.y rfl (.notD rfl) ?_
  refine VO.mv ?_
  refine VO.dec (t := 28) rfl (fun hc5 => ?_) (fun hc5 => ?_)
  · -- T
    refine VO.gN ?_
    refine VO.gN ?_
    refine VO.gN ?_
    refine VO.gN ?_
    refine VO.y rfl (.pT rfl rfl) ?_
    refine VO.mv ?_
    refine VO.gN ?_
    refine VO.gN ?_
    refine VO.gN ?_
    refine VO.gN ?_
    refine VO.y rfl (.pT rfl rfl) ?_
    refine VO.kp [102, 0] [(102, mone g1 (.cells [Value.int .i64 (d2.1), Value.int .i64 (d2.2.1), Value.int .u8 (d2.2.2.1), Value.int .i64 (d2.2.2.2.1), Value.slice p2_A4 (d2.2.2.2.2.1.length) (p2_c4), Value.int .i64 (d2.2.2.2.2.2.1), Value.int .i64 (d2.2.2.2.2.2.2.1), Value.slice p2_A7 (d2.2.2.2.2.2.2.2.length) (p2_c7)].toArray 72 (0, 0))), (0, wm W)] ?_
    refine VO.k8 0 1 2 3 6 8 24 39 ?_
    refine VC.condT rfl ?_
    refine VC.rs ?_
    refine VO.as ?_
    refine VO.k8 0 1 2 3 6 8 24 39 ?_
    refine VC.ret ?_
    refine outR ?_
    refine ⟨_, _, res_run (rs := [.tmp 8]) rfl (.tmp rfl .nil), fun W_ hI => out_of (l := []) hI [] rfl rfl (mle_refl _) (fun hS_ => ?_)⟩
    dsimp only [packV]
    all_goals (first | rfl | (simp [*]; done))
  · -- F
    refine VO.gy rfl ⟨_, rfl, rfl⟩ (.fa rfl tst72 rfl) ?_
    refine VO.gy rfl ⟨_, rfl, rfl⟩ (.ld1 102 rfl tk61 rfl (cellsAt_one rfl rfl)) ?_
    refine VO.gcallN 106 rfl ⟨_, rfl, rfl⟩ fnOk82 rfl (fun W hW => small18_ok W (Rd.mono p2_7 (hW.at (i := 0) rfl))) (fun v6 m6 hv6 => ?_)
    subst hv6
    refine VO.gy rfl ⟨_, rfl, rfl⟩ (.notD rfl) ?_
    refine VO.y rfl (.pF rfl rfl) ?_
    refine VO.mv ?_
    refine VO.dec (t := 34) rfl (fun hc7 => ?_) (fun hc7 => ?_)
    · -- FT
      refine VO.gN ?_
      refine VO.gN ?_
      refine VO.gN ?_
      refine VO.gN ?_
      refine VO.y rfl (.pT rfl rfl) ?_
      refine VO.kp [102, 0] [(102, mone g1 (.cells [Value.int .i64 (d2.1), Value.int .i64 (d2.2.1), Value.int .u8 (d2.2.2.1), Value.int .i64 (d2.2.2.2.1), Value.slice p2_A4 (d2.2.2.2.2.1.length) (p2_c4), Value.int .i64 (d2.2.2.2.2.2.1), Value.int .i64 (d2.2.2.2.2.2.2.1), Value.slice p2_A7 (d2.2.2.2.2.2.2.2.length) (p2_c7)].toArray 72 (0, 0))), (0, wm W)] ?_
      refine VO.k8 0 1 2 3 6 8 24 39 ?_
      refine VC.condT rfl ?_
      refine VC.rs ?_
      refine VO.as ?_
      refine VO.k8 0 1 2 3 6 8 24 39 ?_
      refine VC.ret ?_
      refine outR ?_
      refine ⟨_, _, res_run (rs := [.tmp 8]) rfl (.tmp rfl .nil), fun W_ hI => out_of (l := []) hI [] rfl rfl (mle_refl _) (fun hS_ => ?_)⟩
      dsimp only [packV]
      all_goals (first | rfl | (simp [*]; done))
    · -- FF
      refine VO.gy rfl ⟨_, rfl, rfl⟩ (.fa rfl tst72 rfl) ?_
      refine VO.gy rfl ⟨_, rfl, rfl⟩ (.ld1 102 rfl tk70 rfl (cellsAt_one rfl rfl)) ?_
      refine VO.gy rfl ⟨_, rfl, rfl⟩ (.lenS rfl tsl70) ?_
      refine VO.gy rfl ⟨_, rfl, rfl⟩ (.gtr rfl rfl) ?_
      refine VO.y rfl (.pF rfl rfl) ?_
      refine VO.kp [102, 0] [(102, mone g1 (.cells [Value.int .i64 (d2.1), Value.int .i64 (d2.2.1), Value.int .u8 (d2.2.2.1), Value.int .i64 (d2.2.2.2.1), Value.slice p2_A4 (d2.2.2.2.2.1.length) (p2_c4), Value.int .i64 (d2.2.2.2.2.2.1), Value.int .i64 (d2.2.2.2.2.2.2.1), Value.slice p2_A7 (d2.2.2.2.2.2.2.2.length) (p2_c7)].toArray 72 (0, 0))), (0, wm W)] ?_
      refine VO.k8 0 1 2 3 6 8 24 39 ?_
      refine VC.cond rfl (fun hc8 => ?_) (fun hc8 => ?_)
      · -- FFT
        refine VC.rs ?_
        refine VO.as ?_
        refine VO.k8 0 1 2 3 6 8 24 39 ?_
        refine VC.ret ?_
        refine outR ?_
        refine ⟨_, _, res_run (rs := [.tmp 8]) rfl (.tmp rfl .nil), fun W_ hI => out_of (l := []) hI [] rfl rfl (mle_refl _) (fun hS_ => ?_)⟩
        dsimp only [packV]
        all_goals (first | rfl | (simp [*]; done))
      · -- FFF
        refine VC.skip ?_
        refine outN ?_
        refine VC.seq ?_
        refine VC.regE [(102, mone g1 (.cells [Value.int .i64 (d2.1), Value.int .i64 (d2.2.1), Value.int .u8 (d2.2.2.1), Value.int .i64 (d2.2.2.2.1), Value.slice p2_A4 (d2.2.2.2.2.1.length) (p2_c4), Value.int .i64 (d2.2.2.2.2.2.1), Value.int .i64 (d2.2.2.2.2.2.2.1), Value.slice p2_A7 (d2.2.2.2.2.2.2.2.length) (p2_c7)].toArray 72 (0, 0))), (0, wm W)] 5 follows (by kernel_rfl) (fun _ h => h.sub [102, 0]) ?_
        refine VE.y 0 rfl rfl (.inl rfl) (by kernel_rfl) (.mv rfl) ?_
        refine VE.y 2 rfl rfl (.inl rfl) (by kernel_rfl) (.ldA 102 rfl tk72 rfl (cellsAt_one rfl rfl)) ?_
        refine VE.tree [1, 4] (by kernel_rfl) ⟨?_, ?_, trivial⟩
        · -- FFF0
          refine VI.callN 109 rfl rfl (.inl rfl) fnOk53 rfl (fun _ h => Inv.sbK [102, 0] h) (fun W hW => LentCommits_ok W (Rd.mono h1 (hW.at (i := 0) rfl)) bd (by exact fun c hc => by have h_ := (Decidable.not_not.1 ‹¬ ¬ ((∀ c ∈ d1, c.2.2.length ≤ 40) ∧ _)›).1 c hc; omega)) (fun v9 m9 hv9 => ?_)
          obtain ⟨s9_0, rfl, f9_0⟩ := hv9
          have hfa10 := lent_len d1
          obtain ⟨A9_0, c9_0, eq9_0, l9_0, k9_0⟩ := f9_0.slice
          subst eq9_0
          simp only [maxLen] at k9_0
          refine VE.tree [3, 4] (by kernel_rfl) ⟨?_, ?_, trivial⟩
          · -- FFF00
            refine VI.callN 111 rfl rfl (.inl rfl) fnOk83 rfl (fun _ h => Inv.sbK [102, 0] h) (fun W hW => LentMessage_ok W (Rd.mono h2 (hW.at (i := 0) rfl)) bd bd (by exact fun c hc => by have h_ := (Decidable.not_not.1 ‹¬ ¬ ((∀ c ∈ d2.2.2.2.2.2.2.2, c.2.2.length ≤ 40) ∧ _)›).1 c hc; omega)) (fun v11 m11 hv11 => ?_)
            obtain ⟨s11_0, rfl, f11_0⟩ := hv11
            obtain ⟨q11_0_A4, q11_0_c4, q11_0_A7, q11_0_c7, q11_0_n4, q11_0_n7, rfl, q11_0_S, q11_0_0, q11_0_1, q11_0_2, q11_0_3, q11_0_4, q11_0_5, q11_0_6, q11_0_7⟩ := openO_LMessage (x0 := d2.1) (x1 := d2.2.1) (x2 := d2.2.2.1) (x3 := d2.2.2.2.1) (x4 := (d2.2.2.2.2.1, spareS)) (x5 := d2.2.2.2.2.2.1) (x6 := d2.2.2.2.2.2.2.1) (x7 := (d2.2.2.2.2.2.2.2.map lentC, spareC)) f11_0
            simp only [inK] at q11_0_0
            simp only [inK] at q11_0_1
            simp only [inK] at q11_0_2
            simp only [inK] at q11_0_3
            have q11_0_f4 := (Rd.full (q11_0_4.rd (mle_refl _))).2
            have q11_0_s4 := Rd.pre2 q11_0_f4
            have q11_0_r4 := Rd.room q11_0_f4
            dsimp only at q11_0_f4 q11_0_s4 q11_0_r4
            have q11_0_o4 := (Ow.full q11_0_4).2
            have q11_0_p4 := Ow.pre2 q11_0_o4
            dsimp only at q11_0_o4 q11_0_p4
            simp only [inK] at q11_0_5
            simp only [inK] at q11_0_6
            have q11_0_f7 := (Rd.full (q11_0_7.rd (mle_refl _))).2
            have q11_0_s7 := Rd.pre2 q11_0_f7
            have q11_0_r7 := Rd.room q11_0_f7
            have q11_0_m7 : (d2.2.2.2.2.2.2.2.map lentC).length = d2.2.2.2.2.2.2.2.length := List.length_map ..
            dsimp only at q11_0_f7 q11_0_s7 q11_0_r7
            have q11_0_o7 := (Ow.full q11_0_7).2
            have q11_0_p7 := Ow.pre2 q11_0_o7
            dsimp only at q11_0_o7 q11_0_p7
            refine VE.inv _ (fun _ h => h.parts (i := 111) rfl q11_0_S [112, 113]) ?_
            refine VE.tree [4] (by kernel_rfl) ⟨?_, trivial⟩
            refine VI.alloc 115 rfl rfl tz72 (fun _ _ h => Inv.sbK [102, 0] h) (fun g14 => ?_)
            refine VE.nil (by kernel_rfl) rfl ?_ rfl
            refine VO.as ?_
            refine VO.store (k := 8) 115 rfl rfl (.inl tk72) rfl rfl rfl rfl rfl ?_
            refine VO.k10 0 1 2 3 6 8 9 10 24 39 ?_
            refine outN ?_
            refine VC.seq ?_
            refine VC.regD _ 11 [(0, true), (1, true), (2, true), (3, true), (4, true), (5, true), (6, false), (7, true), (8, true), (9, true), (10, true)] follows (by kernel_rfl) (fun _ h => h.sub [115, 112, 113, 109, 102, 0]) ?_
            refine VD.y rfl rfl (.inl rfl) (.mv rfl) ?_
            refine VD.y rfl rfl (.inl rfl) (.mv rfl) ?_
            refine VD.y rfl rfl (.inl rfl) (.mv rfl) ?_
            refine VD.y rfl rfl (.inl rfl) (.lenS rfl tsl61) ?_
            have hs16 := (Ow.rd f9_0 (mle_refl _)).pre (j := d1.length) bd
            refine VD.y rfl rfl (.inl rfl) (.slHI d1.length rfl rfl tsl61 rfl bd) ?_
            refine VD.y rfl rfl (.inl rfl) (.ldA 115 rfl tk72 rfl (cellsAt_one rfl rfl)) ?_
            refine VD.callN 117 rfl rfl (.inl rfl) fnOk78 rfl (fun _ h => h.sub [115, 112, 113, 109, 102, 0]) (fun W hW => take_ok W d0 bdk (lent_rd (Ow.rd (f9_0.pre (j := d1.length) bd) (hW.at (i := 109) rfl))) (show Rd TMessage _ _ d2 from (mk_Message (m := wm W) d2.1 d2.2.1 d2.2.2.1 d2.2.2.2.1 d2.2.2.2.2.1 d2.2.2.2.2.2.1 d2.2.2.2.2.2.2.1 d2.2.2.2.2.2.2.2 bdk bdk bdk bdk (OwnL.rd (Ow.ownl q11_0_p4 rfl mnil) (hW.at (i := 112) rfl) (mle_nil _)) bdk bdk (lentm_rd (Ow.rd q11_0_p7 (hW.at (i := 113) rfl)))))) (fun v17 m17 hv17 => ?_)
            obtain ⟨s17_0, rfl, f17_0⟩ := hv17
            obtain ⟨A17_0, c17_0, eq17_0, l17_0, k17_0⟩ := f17_0.slice
            subst eq17_0
            simp only [maxLen] at k17_0
            refine VD.y rfl rfl (.inl rfl) (.mv rfl) ?_
            refine VD.y rfl rfl (.inl rfl) (.ext rfl rfl) ?_
            refine VD.y rfl rfl (.inl rfl) (.ext rfl rfl) ?_
            refine VD.y rfl rfl (.inl rfl) (.as rfl) ?_
            refine VD.nil rfl ?_ rfl
            refine VO.as ?_
            refine VO.k12 0 1 2 3 6 8 9 10 11 12 24 39 ?_
            refine outN ?_
            refine VC.rs ?_
            refine VO.mv ?_
            refine VO.mv ?_
            refine VO.y rfl (.ldA 102 rfl tk72 rfl (cellsAt_one rfl rfl)) ?_
            refine VO.callN 118 rfl fnOk84 rfl (fun W hW => take18_ok W d0 bdk (Rd.mono h1 (hW.at (i := 0) rfl)) (Rd.mono h2 (hW.at (i := 0) rfl))) (fun v18 m18 hv18 => ?_)
            obtain ⟨s18_0, rfl, f18_0⟩ := hv18
            obtain ⟨A18_0, c18_0, eq18_0, l18_0, k18_0⟩ := f18_0.slice
            subst eq18_0
            simp only [maxLen] at k18_0
            refine VO.mv ?_
            refine VO.y rfl (.ext rfl rfl) ?_
            refine VO.y rfl (.ext rfl rfl) ?_
            refine VO.as ?_
            refine VO.as ?_
            refine VO.kp [118, 117, 115, 112, 113, 109, 102, 0] [(118, m18), (117, m17), (115, mone g14 (.cells [Value.int .i64 (d2.1), Value.int .i64 (d2.2.1), Value.int .u8 (d2.2.2.1), Value.int .i64 (d2.2.2.2.1), Value.slice q11_0_A4 (d2.2.2.2.2.1.length) (q11_0_c4), Value.int .i64 (d2.2.2.2.2.2.1), Value.int .i64 (d2.2.2.2.2.2.2.1), Value.slice q11_0_A7 ((d2.2.2.2.2.2.2.2.map lentC).length) (q11_0_c7)].toArray 72 (0, 0))), (112, q11_0_n4), (113, q11_0_n7), (109, m9), (102, mone g1 (.cells [Value.int .i64 (d2.1), Value.int .i64 (d2.2.1), Value.int .u8 (d2.2.2.1), Value.int .i64 (d2.2.2.2.1), Value.slice p2_A4 (d2.2.2.2.2.1.length) (p2_c4), Value.int .i64 (d2.2.2.2.2.2.1), Value.int .i64 (d2.2.2.2.2.2.2.1), Value.slice p2_A7 (d2.2.2.2.2.2.2.2.length) (p2_c7)].toArray 72 (0, 0))), (0, wm W)] ?_
            refine VO.k14 0 1 2 3 6 8 9 10 11 12 13 14 24 39 ?_
            refine VC.seq ?_
            refine VC.regD _ 11 [(0, true), (1, true), (2, true), (3, true), (4, true), (5, true), (6, false), (7, true), (8, true), (9, true), (10, true)] follows (by kernel_rfl) (fun _ h => h.sub [118, 117, 115, 112, 113, 109, 102, 0]) ?_
            refine VD.y rfl rfl (.inl rfl) (.mv rfl) ?_
            refine VD.y rfl rfl (.inl rfl) (.mv rfl) ?_
            refine VD.y rfl rfl (.inl rfl) (.mv rfl) ?_
            refine VD.y rfl rfl (.inl rfl) (.lenS rfl tsl61) ?_
            have hs19 := (Ow.rd f9_0 (mle_refl _)).pre (j := d1.length) bd
            refine VD.y rfl rfl (.inl rfl) (.slHI d1.length rfl rfl tsl61 rfl bd) ?_
            refine VD.y rfl rfl (.inl rfl) (.ldA 115 rfl tk72 rfl (cellsAt_one rfl rfl)) ?_
            refine VD.callN 120 rfl rfl (.inl rfl) fnOk78 rfl (fun _ h => h.sub [118, 117, 115, 112, 113, 109, 102, 0]) (fun W hW => take_ok W d0 bdk (lent_rd (Ow.rd (f9_0.pre (j := d1.length) bd) (hW.at (i := 109) rfl))) (show Rd TMessage _ _ d2 from (mk_Message (m := wm W) d2.1 d2.2.1 d2.2.2.1 d2.2.2.2.1 d2.2.2.2.2.1 d2.2.2.2.2.2.1 d2.2.2.2.2.2.2.1 d2.2.2.2.2.2.2.2 bdk bdk bdk bdk (OwnL.rd (Ow.ownl q11_0_p4 rfl mnil) (hW.at (i := 112) rfl) (mle_nil _)) bdk bdk (lentm_rd (Ow.rd q11_0_p7 (hW.at (i := 113) rfl)))))) (fun v20 m20 hv20 => ?_)
            obtain ⟨s20_0, rfl, f20_0⟩ := hv20
            obtain ⟨A20_0, c20_0, eq20_0, l20_0, k20_0⟩ := f20_0.slice
            subst eq20_0
            simp only [maxLen] at k20_0
            refine VD.y rfl rfl (.inl rfl) (.mv rfl) ?_
            refine VD.y rfl rfl (.inl rfl) (.ext rfl rfl) ?_
            refine VD.y rfl rfl (.inl rfl) (.ext rfl rfl) ?_
            refine VD.y rfl rfl (.inl rfl) (.as rfl) ?_
            refine VD.nil rfl ?_ rfl
            refine VO.as ?_
            refine VO.k15 0 1 2 3 6 8 9 10 11 12 13 14 15 24 39 ?_
            refine outN ?_
            refine VC.rs ?_
            refine VO.mv ?_
            refine VO.mv ?_
            refine VO.y rfl (.ldA 115 rfl tk72 rfl (cellsAt_one rfl rfl)) ?_
            refine VO.callN 121 rfl fnOk80 rfl (fun W hW => known_ok W d0 bdk d3 bdk (show Rd TMessage _ _ d2 from (mk_Message (m := wm W) d2.1 d2.2.1 d2.2.2.1 d2.2.2.2.1 d2.2.2.2.2.1 d2.2.2.2.2.2.1 d2.2.2.2.2.2.2.1 d2.2.2.2.2.2.2.2 bdk bdk bdk bdk (OwnL.rd (Ow.ownl q11_0_p4 rfl mnil) (hW.at (i := 112) rfl) (mle_nil _)) bdk bdk (lentm_rd (Ow.rd q11_0_p7 (hW.at (i := 113) rfl)))))) (fun v21 m21 hv21 => ?_)
            subst hv21
            refine VO.mv ?_
            refine VO.y rfl (.ext rfl rfl) ?_
            refine VO.y rfl (.ext rfl rfl) ?_
            refine VO.y rfl (.ext rfl rfl) ?_
            refine VO.as ?_
            refine VO.as ?_
            refine VO.as ?_
            refine VO.k18 0 1 2 3 6 8 9 10 11 12 13 14 15 17 18 19 24 39 ?_
            refine VC.rs ?_
            refine VO.mv ?_
            refine VO.mv ?_
            refine VO.y rfl (.ldA 102 rfl tk72 rfl (cellsAt_one rfl rfl)) ?_
            refine VO.callN 122 rfl fnOk85 rfl (fun W hW => known18_ok W d0 bdk d3 bdk (Rd.mono h2 (hW.at (i := 0) rfl))) (fun v22 m22 hv22 => ?_)
            subst hv22
            refine VO.mv ?_
            refine VO.y rfl (.ext rfl rfl) ?_
            refine VO.y rfl (.ext rfl rfl) ?_
            refine VO.y rfl (.ext rfl rfl) ?_
            refine VO.as ?_
            refine VO.as ?_
            refine VO.as ?_
            refine VO.kp [120, 118, 117, 115, 112, 113, 109, 102, 0] [(120, m20), (118, m18), (117, m17), (115, mone g14 (.cells [Value.int .i64 (d2.1), Value.int .i64 (d2.2.1), Value.int .u8 (d2.2.2.1), Value.int .i64 (d2.2.2.2.1), Value.slice q11_0_A4 (d2.2.2.2.2.1.length) (q11_0_c4), Value.int .i64 (d2.2.2.2.2.2.1), Value.int .i64 (d2.2.2.2.2.2.2.1), Value.slice q11_0_A7 ((d2.2.2.2.2.2.2.2.map lentC).length) (q11_0_c7)].toArray 72 (0, 0))), (112, q11_0_n4), (113, q11_0_n7), (109, m9), (102, mone g1 (.cells [Value.int .i64 (d2.1), Value.int .i64 (d2.2.1), Value.int .u8 (d2.2.2.1), Value.int .i64 (d2.2.2.2.1), Value.slice p2_A4 (d2.2.2.2.2.1.length) (p2_c4), Value.int .i64 (d2.2.2.2.2.2.1), Value.int .i64 (d2.2.2.2.2.2.2.1), Value.slice p2_A7 (d2.2.2.2.2.2.2.2.length) (p2_c7)].toArray 72 (0, 0))), (0, wm W)] ?_
            refine VO.k21 0 1 2 3 6 8 9 10 11 12 13 14 15 17 18 19 20 21 22 24 39 ?_
            refine VC.seq ?_
            refine VC.rs ?_
            refine VO.mv ?_
            refine VO.mv ?_
            refine VO.y rfl (.neq rfl rfl) ?_
            refine VO.mv ?_
            refine VO.dec (t := 90) rfl (fun hc23 => ?_) (fun hc23 => ?_)
            · -- FFF00T
              exact absurd rfl hc23
            · -- FFF00F
              refine VO.gy rfl ⟨_, rfl, rfl⟩ (.mv rfl) ?_
              refine VO.gy rfl ⟨_, rfl, rfl⟩ (.mv rfl) ?_
              refine VO.gy rfl ⟨_, rfl, rfl⟩ (.neq rfl rfl) ?_
              refine VO.y rfl (.pF rfl rfl) ?_
              refine VO.mv ?_
              refine VO.dec (t := 95) rfl (fun hc24 => ?_) (fun hc24 => ?_)
              · -- FFF00FT
                exact absurd rfl hc24
              · -- FFF00FF
                refine VO.gy rfl ⟨_, rfl, rfl⟩ (.mv rfl) ?_
                refine VO.gy rfl ⟨_, rfl, rfl⟩ (.mv rfl) ?_
                refine VO.gy rfl ⟨_, rfl, rfl⟩ (.neq rfl rfl) ?_
                refine VO.y rfl (.pF rfl rfl) ?_
                refine VO.mv ?_
                refine VO.dec (t := 100) rfl (fun hc25 => ?_) (fun hc25 => ?_)
                · -- FFF00FFT
                  exact absurd rfl hc25
                · -- FFF00FFF
                  refine VO.gy rfl ⟨_, rfl, rfl⟩ (.mv rfl) ?_
                  refine VO.gy rfl ⟨_, rfl, rfl⟩ (.mv rfl) ?_
                  refine VO.gy rfl ⟨_, rfl, rfl⟩ (.bneq rfl rfl Try.underlying4) ?_
                  refine VO.y rfl (.pF rfl rfl) ?_
                  refine VO.mv ?_
                  refine VO.dec (t := 105) rfl (fun hc26 => ?_) (fun hc26 => ?_)
                  · -- FFF00FFFT
                    exact absurd rfl hc26
                  · -- FFF00FFFF
                    refine VO.gy rfl ⟨_, rfl, rfl⟩ (.mv rfl) ?_
                    refine VO.gy rfl ⟨_, rfl, rfl⟩ (.mv rfl) ?_
                    refine VO.gcallN 127 rfl ⟨_, rfl, rfl⟩ fnOk69 rfl (fun W hW => SameCommits_ok W (Ow.rd f17_0 (hW.at (i := 117) rfl)) (Ow.rd f18_0 (hW.at (i := 118) rfl))) (fun v27 m27 hv27 => ?_)
                    subst hv27
                    refine VO.gy rfl ⟨_, rfl, rfl⟩ (.notD rfl) ?_
                    refine VO.y rfl (.pF rfl rfl) ?_
                    refine VO.mv ?_
                    refine VO.dec (t := 111) rfl (fun hc28 => ?_) (fun hc28 => ?_)
                    · -- FFF00FFFFT
                      exact absurd rfl hc28
                    · -- FFF00FFFFF
                      refine VO.gy rfl ⟨_, rfl, rfl⟩ (.mv rfl) ?_
                      refine VO.gy rfl ⟨_, rfl, rfl⟩ (.mv rfl) ?_
                      refine VO.gcallN 129 rfl ⟨_, rfl, rfl⟩ fnOk55 rfl (fun W hW => KeptCommits_ok W (Ow.rd f9_0 (hW.at (i := 109) rfl)) (Rd.mono h1 (hW.at (i := 0) rfl)) (by rfl) bd (by exact fun c hc => by have h_ := (Decidable.not_not.1 ‹¬ ¬ ((∀ c ∈ d1, c.2.2.length ≤ 40) ∧ _)›).1 c hc; omega)) (fun v29 m29 hv29 => ?_)
                      subst hv29
                      refine VO.gy rfl ⟨_, rfl, rfl⟩ (.not rfl) ?_
                      refine VO.y rfl (.pF rfl rfl) ?_
                      refine VO.mv ?_
                      refine VO.gy rfl ⟨_, rfl, rfl⟩ (.ldA 115 rfl tk72 rfl (cellsAt_one rfl rfl)) ?_
                      refine VO.gy rfl ⟨_, rfl, rfl⟩ (.ldA 102 rfl tk72 rfl (cellsAt_one rfl rfl)) ?_
                      refine VO.gcallN 130 rfl ⟨_, rfl, rfl⟩ fnOk86 rfl (fun W hW => KeptMessage_ok W (mk_LMessage (m := wm W) d2.1 d2.2.1 d2.2.2.1 d2.2.2.2.1 (d2.2.2.2.2.1, spareS) d2.2.2.2.2.2.1 d2.2.2.2.2.2.2.1 (d2.2.2.2.2.2.2.2.map lentC, spareC) bdk bdk bdk bdk (Rd.mono (Rd.mkSpl (e := TStart) (xs := (d2.2.2.2.2.1, spareS).1) (ys := (d2.2.2.2.2.1, spareS).2) q11_0_f4 rfl) (hW.at (i := 112) rfl)) bdk bdk (Rd.mono (Rd.mkSpl (e := TLCommit) (xs := (d2.2.2.2.2.2.2.2.map lentC, spareC).1) (ys := (d2.2.2.2.2.2.2.2.map lentC, spareC).2) q11_0_f7 rfl) (hW.at (i := 113) rfl))) (Rd.mono h2 (hW.at (i := 0) rfl)) (by rfl) bd bd (by exact fun c hc => by have h_ := (Decidable.not_not.1 ‹¬ ¬ ((∀ c ∈ d2.2.2.2.2.2.2.2, c.2.2.length ≤ 40) ∧ _)›).1 c hc; omega)) (fun v30 m30 hv30 => ?_)
                      try dsimp only at hv30
                      subst hv30
                      refine VO.gy rfl ⟨_, rfl, rfl⟩ (.not rfl) ?_
                      refine VO.y rfl (.pF rfl rfl) ?_
                      refine VO.k22 0 1 2 3 6 8 9 10 11 12 13 14 15 17 18 19 20 21 22 24 39 122 ?_
                      refine VC.condF rfl ?_
                      refine VC.skip ?_
                      refine outN ?_
                      refine VC.seq ?_
                      refine VC.regD _ 8 [(0, true), (1, true), (2, true), (3, true), (4, true), (5, true), (6, true), (7, true)] follows (by kernel_rfl) (fun _ h => h.sub [130, 129, 127, 120, 118, 117, 115, 112, 113, 109, 102, 0]) ?_
                      refine VD.y rfl rfl (.inl rfl) (.mv rfl) ?_
                      refine VD.y rfl rfl (.inl rfl) (.mv rfl) ?_
                      refine VD.y rfl rfl (.inl rfl) (.mv rfl) ?_
                      refine VD.y rfl rfl (.inl rfl) (.mv rfl) ?_
                      refine VD.y rfl rfl (.inl rfl) (.lenS rfl tsl61) ?_
                      have hs31 := (Ow.rd f9_0 (mle_refl _)).pre (j := d1.length) bd
                      refine VD.y rfl rfl (.inl rfl) (.slHI d1.length rfl rfl tsl61 rfl bd) ?_
                      refine VD.y rfl rfl (.inl rfl) (.fa rfl tst72 rfl) ?_
                      refine VD.y rfl rfl (.inl rfl) (.ld1 115 rfl tk61 rfl (cellsAt_one rfl rfl)) ?_
                      refine VD.nil rfl ?_ rfl
                      refine VO.bsl (cs := [Value.slice A17_0 (((takeOf d0 d1 d2).1).length) (c17_0), Value.slice A20_0 (((takeOf d0 d1 d2).1).length) (c20_0), Value.slice A9_0 (d1.length) (c9_0), Value.slice q11_0_A7 ((d2.2.2.2.2.2.2.2.map lentC).length) (q11_0_c7)]) 133 rfl rfl tsl81 tz61 rfl rfl (fun g32 => ?_)
                      refine VO.gather (l := [mone g32 (.cells [Value.slice A17_0 (((takeOf d0 d1 d2).1).length) (c17_0), Value.slice A20_0 (((takeOf d0 d1 d2).1).length) (c20_0), Value.slice A9_0 (d1.length) (c9_0), Value.slice q11_0_A7 ((d2.2.2.2.2.2.2.2.map lentC).length) (q11_0_c7)].toArray 61 (0, 0)), m17, m20, m9, q11_0_n7]) 136 [133, 117, 120, 109, 113] rfl (fun hg35 => ?_)
                      have ho35 : Ow (.sl (.sl TCommit)) (muns [mone g32 (.cells [Value.slice A17_0 (((takeOf d0 d1 d2).1).length) (c17_0), Value.slice A20_0 (((takeOf d0 d1 d2).1).length) (c20_0), Value.slice A9_0 (d1.length) (c9_0), Value.slice q11_0_A7 ((d2.2.2.2.2.2.2.2.map lentC).length) (q11_0_c7)].toArray 61 (0, 0)), m17, m20, m9, q11_0_n7]) [Value.slice (some ⟨g32, 0, none⟩) (4) (4)] [(takeOf d0 d1 d2).1, (takeOf d0 d1 d2).1, d1, d2.2.2.2.2.2.2.2] := Ow.lit 4 (Seps.grp1 (ls := [[m17], [m20], [m9], [q11_0_n7]]) hg35) (OwAs.cons (m := muns [m17]) (c1 := [Value.slice A17_0 (((takeOf d0 d1 d2).1).length) (c17_0)]) (Ow.up f17_0 ((Seps.self hg35 (List.Sublist.cons _ (List.Sublist.cons_cons _ (List.Sublist.cons _ (List.Sublist.cons _ (List.Sublist.cons _ List.Sublist.slnil)))))).1 _ (.head _))) (OwAs.cons (m := muns [m20]) (c1 := [Value.slice A20_0 (((takeOf d0 d1 d2).1).length) (c20_0)]) (Ow.up f20_0 ((Seps.self hg35 (List.Sublist.cons _ (List.Sublist.cons _ (List.Sublist.cons_cons _ (List.Sublist.cons _ (List.Sublist.cons _ List.Sublist.slnil)))))).1 _ (.head _))) (OwAs.cons (m := muns [m9]) (c1 := [Value.slice A9_0 (d1.length) (c9_0)]) (Ow.up (lent_ow (f9_0.pre (j := d1.length) bd)) ((Seps.self hg35 (List.Sublist.cons _ (List.Sublist.cons _ (List.Sublist.cons _ (List.Sublist.cons_cons _ (List.Sublist.cons _ List.Sublist.slnil)))))).1 _ (.head _))) (OwAs.cons (m := muns [q11_0_n7]) (c1 := [Value.slice q11_0_A7 ((d2.2.2.2.2.2.2.2.map lentC).length) (q11_0_c7)]) (Ow.up (lentm_ow q11_0_p7) ((Seps.self hg35 (List.Sublist.cons _ (List.Sublist.cons _ (List.Sublist.cons _ (List.Sublist.cons _ (List.Sublist.cons_cons _ List.Sublist.slnil)))))).1 _ (.head _))) OwAs.nil)))) rfl rfl
                      refine VO.call 136 rfl fnOk76 rfl rfl (fun W hW => ApartCommits_ok W (hW.at (i := 136) rfl) ho35 bd (by exact (four_a (take_le4 _ _ _) (take_le4 _ _ _) (by omega) (by omega)).1) (by exact (four_a (take_le4 _ _ _) (take_le4 _ _ _) (by omega) (by omega)).2) (by exact four_b take_mem take_mem (Decidable.not_not.1 ‹¬ ¬ ((∀ c ∈ d1, c.2.2.length ≤ 40) ∧ _)›).1 (Decidable.not_not.1 ‹¬ ¬ ((∀ c ∈ d2.2.2.2.2.2.2.2, c.2.2.length ≤ 40) ∧ _)›).1 e0 e1)) (fun v34 m34 hv34 => ?_)
                      subst hv34
                      refine VO.as ?_
                      refine VO.k22 0 1 2 3 6 8 9 10 11 12 13 14 15 17 18 19 20 21 22 24 39 122 ?_
                      refine outN ?_
                      refine VC.ret ?_
                      refine ⟨_, _, res_run (rs := [.tmp 8]) rfl (.tmp rfl .nil), fun W_ hI => out_of (l := []) hI [] rfl rfl (mle_refl _) (fun hS_ => ?_)⟩
                      dsimp only [packV]
                      all_goals (first | rfl | (simp [*]; done))
          · -- FFF01
            refine VI.alloc 138 rfl rfl tz72 (fun _ _ h => Inv.sbK [102, 0] h) (fun g37 => ?_)
            refine VE.tree [3] (by kernel_rfl) ⟨?_, trivial⟩
            refine VI.callN 139 rfl rfl (.inl rfl) fnOk83 rfl (fun _ h => Inv.sbK [102, 0] h) (fun W hW => LentMessage_ok W (Rd.mono h2 (hW.at (i := 0) rfl)) bd bd (by exact fun c hc => by have h_ := (Decidable.not_not.1 ‹¬ ¬ ((∀ c ∈ d2.2.2.2.2.2.2.2, c.2.2.length ≤ 40) ∧ _)›).1 c hc; omega)) (fun v39 m39 hv39 => ?_)
            obtain ⟨s39_0, rfl, f39_0⟩ := hv39
            obtain ⟨q39_0_A4, q39_0_c4, q39_0_A7, q39_0_c7, q39_0_n4, q39_0_n7, rfl, q39_0_S, q39_0_0, q39_0_1, q39_0_2, q39_0_3, q39_0_4, q39_0_5, q39_0_6, q39_0_7⟩ := openO_LMessage (x0 := d2.1) (x1 := d2.2.1) (x2 := d2.2.2.1) (x3 := d2.2.2.2.1) (x4 := (d2.2.2.2.2.1, spareS)) (x5 := d2.2.2.2.2.2.1) (x6 := d2.2.2.2.2.2.2.1) (x7 := (d2.2.2.2.2.2.2.2.map lentC, spareC)) f39_0
            simp only [inK] at q39_0_0
            simp only [inK] at q39_0_1
            simp only [inK] at q39_0_2
            simp only [inK] at q39_0_3
            have q39_0_f4 := (Rd.full (q39_0_4.rd (mle_refl _))).2
            have q39_0_s4 := Rd.pre2 q39_0_f4
            have q39_0_r4 := Rd.room q39_0_f4
            dsimp only at q39_0_f4 q39_0_s4 q39_0_r4
            have q39_0_o4 := (Ow.full q39_0_4).2
            have q39_0_p4 := Ow.pre2 q39_0_o4
            dsimp only at q39_0_o4 q39_0_p4
            simp only [inK] at q39_0_5
            simp only [inK] at q39_0_6
            have q39_0_f7 := (Rd.full (q39_0_7.rd (mle_refl _))).2
            have q39_0_s7 := Rd.pre2 q39_0_f7
            have q39_0_r7 := Rd.room q39_0_f7
            have q39_0_m7 : (d2.2.2.2.2.2.2.2.map lentC).length = d2.2.2.2.2.2.2.2.length := List.length_map ..
            dsimp only at q39_0_f7 q39_0_s7 q39_0_r7
            have q39_0_o7 := (Ow.full q39_0_7).2
            have q39_0_p7 := Ow.pre2 q39_0_o7
            dsimp only at q39_0_o7 q39_0_p7
            refine VE.inv _ (fun _ h => h.parts (i := 139) rfl q39_0_S [140, 141]) ?_
            refine VE.nil (by kernel_rfl) rfl ?_ rfl
            refine VO.as ?_
            refine VO.store (k := 8) 138 rfl rfl (.inl tk72) rfl rfl rfl rfl rfl ?_
            refine VO.k10 0 1 2 3 6 8 9 10 24 39 ?_
            refine outN ?_
            refine VC.seq ?_
            refine VC.regD _ 11 [(0, true), (1, true), (2, true), (3, true), (4, true), (5, true), (6, false), (7, true), (8, true), (9, true), (10, true)] follows (by kernel_rfl) (fun _ h => h.sub [140, 141, 138, 109, 102, 0]) ?_
            refine VD.y rfl rfl (.inl rfl) (.mv rfl) ?_
            refine VD.y rfl rfl (.inl rfl) (.mv rfl) ?_
            refine VD.y rfl rfl (.inl rfl) (.mv rfl) ?_
            refine VD.y rfl rfl (.inl rfl) (.lenS rfl tsl61) ?_
            have hs42 := (Ow.rd f9_0 (mle_refl _)).pre (j := d1.length) bd
            refine VD.y rfl rfl (.inl rfl) (.slHI d1.length rfl rfl tsl61 rfl bd) ?_
            refine VD.y rfl rfl (.inl rfl) (.ldA 138 rfl tk72 rfl (cellsAt_one rfl rfl)) ?_
            refine VD.callN 143 rfl rfl (.inl rfl) fnOk78 rfl (fun _ h => h.sub [140, 141, 138, 109, 102, 0]) (fun W hW => take_ok W d0 bdk (lent_rd (Ow.rd (f9_0.pre (j := d1.length) bd) (hW.at (i := 109) rfl))) (show Rd TMessage _ _ d2 from (mk_Message (m := wm W) d2.1 d2.2.1 d2.2.2.1 d2.2.2.2.1 d2.2.2.2.2.1 d2.2.2.2.2.2.1 d2.2.2.2.2.2.2.1 d2.2.2.2.2.2.2.2 bdk bdk bdk bdk (OwnL.rd (Ow.ownl q39_0_p4 rfl mnil) (hW.at (i := 140) rfl) (mle_nil _)) bdk bdk (lentm_rd (Ow.rd q39_0_p7 (hW.at (i := 141) rfl)))))) (fun v43 m43 hv43 => ?_)
            obtain ⟨s43_0, rfl, f43_0⟩ := hv43
            obtain ⟨A43_0, c43_0, eq43_0, l43_0, k43_0⟩ := f43_0.slice
            subst eq43_0
            simp only [maxLen] at k43_0
            refine VD.y rfl rfl (.inl rfl) (.mv rfl) ?_
            refine VD.y rfl rfl (.inl rfl) (.ext rfl rfl) ?_
            refine VD.y rfl rfl (.inl rfl) (.ext rfl rfl) ?_
            refine VD.y rfl rfl (.inl rfl) (.as rfl) ?_
            refine VD.nil rfl ?_ rfl
            refine VO.as ?_
            refine VO.k12 0 1 2 3 6 8 9 10 11 12 24 39 ?_
            refine outN ?_
            refine VC.rs ?_
            refine VO.mv ?_
            refine VO.mv ?_
            refine VO.y rfl (.ldA 102 rfl tk72 rfl (cellsAt_one rfl rfl)) ?_
            refine VO.callN 144 rfl fnOk84 rfl (fun W hW => take18_ok W d0 bdk (Rd.mono h1 (hW.at (i := 0) rfl)) (Rd.mono h2 (hW.at (i := 0) rfl))) (fun v44 m44 hv44 => ?_)
            obtain ⟨s44_0, rfl, f44_0⟩ := hv44
            obtain ⟨A44_0, c44_0, eq44_0, l44_0, k44_0⟩ := f44_0.slice
            subst eq44_0
            simp only [maxLen] at k44_0
            refine VO.mv ?_
            refine VO.y rfl (.ext rfl rfl) ?_
            refine VO.y rfl (.ext rfl rfl) ?_
            refine VO.as ?_
            refine VO.as ?_
            refine VO.kp [144, 143, 140, 141, 138, 109, 102, 0] [(144, m44), (143, m43), (140, q39_0_n4), (141, q39_0_n7), (138, mone g37 (.cells [Value.int .i64 (d2.1), Value.int .i64 (d2.2.1), Value.int .u8 (d2.2.2.1), Value.int .i64 (d2.2.2.2.1), Value.slice q39_0_A4 (d2.2.2.2.2.1.length) (q39_0_c4), Value.int .i64 (d2.2.2.2.2.2.1), Value.int .i64 (d2.2.2.2.2.2.2.1), Value.slice q39_0_A7 ((d2.2.2.2.2.2.2.2.map lentC).length) (q39_0_c7)].toArray 72 (0, 0))), (109, m9), (102, mone g1 (.cells [Value.int .i64 (d2.1), Value.int .i64 (d2.2.1), Value.int .u8 (d2.2.2.1), Value.int .i64 (d2.2.2.2.1), Value.slice p2_A4 (d2.2.2.2.2.1.length) (p2_c4), Value.int .i64 (d2.2.2.2.2.2.1), Value.int .i64 (d2.2.2.2.2.2.2.1), Value.slice p2_A7 (d2.2.2.2.2.2.2.2.length) (p2_c7)].toArray 72 (0, 0))), (0, wm W)] ?_
            refine VO.k14 0 1 2 3 6 8 9 10 11 12 13 14 24 39 ?_
            refine VC.seq ?_
            refine VC.regD _ 11 [(0, true), (1, true), (2, true), (3, true), (4, true), (5, true), (6, false), (7, true), (8, true), (9, true), (10, true)] follows (by kernel_rfl) (fun _ h => h.sub [144, 143, 140, 141, 138, 109, 102, 0]) ?_
            refine VD.y rfl rfl (.inl rfl) (.mv rfl) ?_
            refine VD.y rfl rfl (.inl rfl) (.mv rfl) ?_
            refine VD.y rfl rfl (.inl rfl) (.mv rfl) ?_
            refine VD.y rfl rfl (.inl rfl) (.lenS rfl tsl61) ?_
            have hs45 := (Ow.rd f9_0 (mle_refl _)).pre (j := d1.length) bd
            refine VD.y rfl rfl (.inl rfl) (.slHI d1.length rfl rfl tsl61 rfl bd) ?_
            refine VD.y rfl rfl (.inl rfl) (.ldA 138 rfl tk72 rfl (cellsAt_one rfl rfl)) ?_
            refine VD.callN 146 rfl rfl (.inl rfl) fnOk78 rfl (fun _ h => h.sub [144, 143, 140, 141, 138, 109, 102, 0]) (fun W hW => take_ok W d0 bdk (lent_rd (Ow.rd (f9_0.pre (j := d1.length) bd) (hW.at (i := 109) rfl))) (show Rd TMessage _ _ d2 from (mk_Message (m := wm W) d2.1 d2.2.1 d2.2.2.1 d2.2.2.2.1 d2.2.2.2.2.1 d2.2.2.2.2.2.1 d2.2.2.2.2.2.2.1 d2.2.2.2.2.2.2.2 bdk bdk bdk bdk (OwnL.rd (Ow.ownl q39_0_p4 rfl mnil) (hW.at (i := 140) rfl) (mle_nil _)) bdk bdk (lentm_rd (Ow.rd q39_0_p7 (hW.at (i := 141) rfl)))))) (fun v46 m46 hv46 => ?_)
            obtain ⟨s46_0, rfl, f46_0⟩ := hv46
            obtain ⟨A46_0, c46_0, eq46_0, l46_0, k46_0⟩ := f46_0.slice
            subst eq46_0
            simp only [maxLen] at k46_0
            refine VD.y rfl rfl (.inl rfl) (.mv rfl) ?_
            refine VD.y rfl rfl (.inl rfl) (.ext rfl rfl) ?_
            refine VD.y rfl rfl (.inl rfl) (.ext rfl rfl) ?_
            refine VD.y rfl rfl (.inl rfl) (.as rfl) ?_
            refine VD.nil rfl ?_ rfl
            refine VO.as ?_
            refine VO.k15 0 1 2 3 6 8 9 10 11 12 13 14 15 24 39 ?_
            refine outN ?_
            refine VC.rs ?_
            refine VO.mv ?_
            refine VO.mv ?_
            refine VO.y rfl (.ldA 138 rfl tk72 rfl (cellsAt_one rfl rfl)) ?_
            refine VO.callN 147 rfl fnOk80 rfl (fun W hW => known_ok W d0 bdk d3 bdk (show Rd TMessage _ _ d2 from (mk_Message (m := wm W) d2.1 d2.2.1 d2.2.2.1 d2.2.2.2.1 d2.2.2.2.2.1 d2.2.2.2.2.2.1 d2.2.2.2.2.2.2.1 d2.2.2.2.2.2.2.2 bdk bdk bdk bdk (OwnL.rd (Ow.ownl q39_0_p4 rfl mnil) (hW.at (i := 140) rfl) (mle_nil _)) bdk bdk (lentm_rd (Ow.rd q39_0_p7 (hW.at (i := 141) rfl)))))) (fun v47 m47 hv47 => ?_)
            subst hv47
            refine VO.mv ?_
            refine VO.y rfl (.ext rfl rfl) ?_
            refine VO.y rfl (.ext rfl rfl) ?_
            refine VO.y rfl (.ext rfl rfl) ?_
            refine VO.as ?_
            refine VO.as ?_
            refine VO.as ?_
            refine VO.k18 0 1 2 3 6 8 9 10 11 12 13 14 15 17 18 19 24 39 ?_
            refine VC.rs ?_
            refine VO.mv ?_
            refine VO.mv ?_
            refine VO.y rfl (.ldA 102 rfl tk72 rfl (cellsAt_one rfl rfl)) ?_
            refine VO.callN 148 rfl fnOk85 rfl (fun W hW => known18_ok W d0 bdk d3 bdk (Rd.mono h2 (hW.at (i := 0) rfl))) (fun v48 m48 hv48 => ?_)
            subst hv48
            refine VO.mv ?_
            refine VO.y rfl (.ext rfl rfl) ?_
            refine VO.y rfl (.ext rfl rfl) ?_
            refine VO.y rfl (.ext rfl rfl) ?_
            refine VO.as ?_
            refine VO.as ?_
            refine VO.as ?_
            refine VO.kp [146, 144, 143, 140, 141, 138, 109, 102, 0] [(146, m46), (144, m44), (143, m43), (140, q39_0_n4), (141, q39_0_n7), (138, mone g37 (.cells [Value.int .i64 (d2.1), Value.int .i64 (d2.2.1), Value.int .u8 (d2.2.2.1), Value.int .i64 (d2.2.2.2.1), Value.slice q39_0_A4 (d2.2.2.2.2.1.length) (q39_0_c4), Value.int .i64 (d2.2.2.2.2.2.1), Value.int .i64 (d2.2.2.2.2.2.2.1), Value.slice q39_0_A7 ((d2.2.2.2.2.2.2.2.map lentC).length) (q39_0_c7)].toArray 72 (0, 0))), (109, m9), (102, mone g1 (.cells [Value.int .i64 (d2.1), Value.int .i64 (d2.2.1), Value.int .u8 (d2.2.2.1), Value.int .i64 (d2.2.2.2.1), Value.slice p2_A4 (d2.2.2.2.2.1.length) (p2_c4), Value.int .i64 (d2.2.2.2.2.2.1), Value.int .i64 (d2.2.2.2.2.2.2.1), Value.slice p2_A7 (d2.2.2.2.2.2.2.2.length) (p2_c7)].toArray 72 (0, 0))), (0, wm W)] ?_
            refine VO.k21 0 1 2 3 6 8 9 10 11 12 13 14 15 17 18 19 20 21 22 24 39 ?_
            refine VC.seq ?_
            refine VC.rs ?_
            refine VO.mv ?_
            refine VO.mv ?_
            refine VO.y rfl (.neq rfl rfl) ?_
            refine VO.mv ?_
            refine VO.dec (t := 90) rfl (fun hc49 => ?_) (fun hc49 => ?_)
            · -- FFF01T
              exact absurd rfl hc49
            · -- FFF01F
              refine VO.gy rfl ⟨_, rfl, rfl⟩ (.mv rfl) ?_
              refine VO.gy rfl ⟨_, rfl, rfl⟩ (.mv rfl) ?_
              refine VO.gy rfl ⟨_, rfl, rfl⟩ (.neq rfl rfl) ?_
              refine VO.y rfl (.pF rfl rfl) ?_
              refine VO.mv ?_
              refine VO.dec (t := 95) rfl (fun hc50 => ?_) (fun hc50 => ?_)
              · -- FFF01FT
                exact absurd rfl hc50
              · -- FFF01FF
                refine VO.gy rfl ⟨_, rfl, rfl⟩ (.mv rfl) ?_
                refine VO.gy rfl ⟨_, rfl, rfl⟩ (.mv rfl) ?_
                refine VO.gy rfl ⟨_, rfl, rfl⟩ (.neq rfl rfl) ?_
                refine VO.y rfl (.pF rfl rfl) ?_
                refine VO.mv ?_
                refine VO.dec (t := 100) rfl (fun hc51 => ?_) (fun hc51 => ?_)
                · -- FFF01FFT
                  exact absurd rfl hc51
                · -- FFF01FFF
                  refine VO.gy rfl ⟨_, rfl, rfl⟩ (.mv rfl) ?_
                  refine VO.gy rfl ⟨_, rfl, rfl⟩ (.mv rfl) ?_
                  refine VO.gy rfl ⟨_, rfl, rfl⟩ (.bneq rfl rfl Try.underlying4) ?_
                  refine VO.y rfl (.pF rfl rfl) ?_
                  refine VO.mv ?_
                  refine VO.dec (t := 105) rfl (fun hc52 => ?_) (fun hc52 => ?_)
                  · -- FFF01FFFT
                    exact absurd rfl hc52
                  · -- FFF01FFFF
                    refine VO.gy rfl ⟨_, rfl, rfl⟩ (.mv rfl) ?_
                    refine VO.gy rfl ⟨_, rfl, rfl⟩ (.mv rfl) ?_
                    refine VO.gcallN 153 rfl ⟨_, rfl, rfl⟩ fnOk69 rfl (fun W hW => SameCommits_ok W (Ow.rd f43_0 (hW.at (i := 143) rfl)) (Ow.rd f44_0 (hW.at (i := 144) rfl))) (fun v53 m53 hv53 => ?_)
                    subst hv53
                    refine VO.gy rfl ⟨_, rfl, rfl⟩ (.notD rfl) ?_
                    refine VO.y rfl (.pF rfl rfl) ?_
                    refine VO.mv ?_
                    refine VO.dec (t := 111) rfl (fun hc54 => ?_) (fun hc54 => ?_)
                    · -- FFF01FFFFT
                      exact absurd rfl hc54
                    · -- FFF01FFFFF
                      refine VO.gy rfl ⟨_, rfl, rfl⟩ (.mv rfl) ?_
                      refine VO.gy rfl ⟨_, rfl, rfl⟩ (.mv rfl) ?_
                      refine VO.gcallN 155 rfl ⟨_, rfl, rfl⟩ fnOk55 rfl (fun W hW => KeptCommits_ok W (Ow.rd f9_0 (hW.at (i := 109) rfl)) (Rd.mono h1 (hW.at (i := 0) rfl)) (by rfl) bd (by exact fun c hc => by have h_ := (Decidable.not_not.1 ‹¬ ¬ ((∀ c ∈ d1, c.2.2.length ≤ 40) ∧ _)›).1 c hc; omega)) (fun v55 m55 hv55 => ?_)
                      subst hv55
                      refine VO.gy rfl ⟨_, rfl, rfl⟩ (.not rfl) ?_
                      refine VO.y rfl (.pF rfl rfl) ?_
                      refine VO.mv ?_
                      refine VO.gy rfl ⟨_, rfl, rfl⟩ (.ldA 138 rfl tk72 rfl (cellsAt_one rfl rfl)) ?_
                      refine VO.gy rfl ⟨_, rfl, rfl⟩ (.ldA 102 rfl tk72 rfl (cellsAt_one rfl rfl)) ?_
                      refine VO.gcallN 156 rfl ⟨_, rfl, rfl⟩ fnOk86 rfl (fun W hW => KeptMessage_ok W (mk_LMessage (m := wm W) d2.1 d2.2.1 d2.2.2.1 d2.2.2.2.1 (d2.2.2.2.2.1, spareS) d2.2.2.2.2.2.1 d2.2.2.2.2.2.2.1 (d2.2.2.2.2.2.2.2.map lentC, spareC) bdk bdk bdk bdk (Rd.mono (Rd.mkSpl (e := TStart) (xs := (d2.2.2.2.2.1, spareS).1) (ys := (d2.2.2.2.2.1, spareS).2) q39_0_f4 rfl) (hW.at (i := 140) rfl)) bdk bdk (Rd.mono (Rd.mkSpl (e := TLCommit) (xs := (d2.2.2.2.2.2.2.2.map lentC, spareC).1) (ys := (d2.2.2.2.2.2.2.2.map lentC, spareC).2) q39_0_f7 rfl) (hW.at (i := 141) rfl))) (Rd.mono h2 (hW.at (i := 0) rfl)) (by rfl) bd bd (by exact fun c hc => by have h_ := (Decidable.not_not.1 ‹¬ ¬ ((∀ c ∈ d2.2.2.2.2.2.2.2, c.2.2.length ≤ 40) ∧ _)›).1 c hc; omega)) (fun v56 m56 hv56 => ?_)
                      try dsimp only at hv56
                      subst hv56
                      refine VO.gy rfl ⟨_, rfl, rfl⟩ (.not rfl) ?_
                      refine VO.y rfl (.pF rfl rfl) ?_
                      refine VO.k22 0 1 2 3 6 8 9 10 11 12 13 14 15 17 18 19 20 21 22 24 39 122 ?_
                      refine VC.condF rfl ?_
                      refine VC.skip ?_
                      refine outN ?_
                      refine VC.seq ?_
                      refine VC.regD _ 8 [(0, true), (1, true), (2, true), (3, true), (4, true), (5, true), (6, true), (7, true)] follows (by kernel_rfl) (fun _ h => h.sub [156, 155, 153, 146, 144, 143, 140, 141, 138, 109, 102, 0]) ?_
                      refine VD.y rfl rfl (.inl rfl) (.mv rfl) ?_
                      refine VD.y rfl rfl (.inl rfl) (.mv rfl) ?_
                      refine VD.y rfl rfl (.inl rfl) (.mv rfl) ?_
                      refine VD.y rfl rfl (.inl rfl) (.mv rfl) ?_
                      refine VD.y rfl rfl (.inl rfl) (.lenS rfl tsl61) ?_
                      have hs57 := (Ow.rd f9_0 (mle_refl _)).pre (j := d1.length) bd
                      refine VD.y rfl rfl (.inl rfl) (.slHI d1.length rfl rfl tsl61 rfl bd) ?_
                      refine VD.y rfl rfl (.inl rfl) (.fa rfl tst72 rfl) ?_
                      refine VD.y rfl rfl (.inl rfl) (.ld1 138 rfl tk61 rfl (cellsAt_one rfl rfl)) ?_
                      refine VD.nil rfl ?_ rfl
                      refine VO.bsl (cs := [Value.slice A43_0 (((takeOf d0 d1 d2).1).length) (c43_0), Value.slice A46_0 (((takeOf d0 d1 d2).1).length) (c46_0), Value.slice A9_0 (d1.length) (c9_0), Value.slice q39_0_A7 ((d2.2.2.2.2.2.2.2.map lentC).length) (q39_0_c7)]) 159 rfl rfl tsl81 tz61 rfl rfl (fun g58 => ?_)
                      refine VO.gather (l := [mone g58 (.cells [Value.slice A43_0 (((takeOf d0 d1 d2).1).length) (c43_0), Value.slice A46_0 (((takeOf d0 d1 d2).1).length) (c46_0), Value.slice A9_0 (d1.length) (c9_0), Value.slice q39_0_A7 ((d2.2.2.2.2.2.2.2.map lentC).length) (q39_0_c7)].toArray 61 (0, 0)), m43, m46, m9, q39_0_n7]) 162 [159, 143, 146, 109, 141] rfl (fun hg61 => ?_)
                      have ho61 : Ow (.sl (.sl TCommit)) (muns [mone g58 (.cells [Value.slice A43_0 (((takeOf d0 d1 d2).1).length) (c43_0), Value.slice A46_0 (((takeOf d0 d1 d2).1).length) (c46_0), Value.slice A9_0 (d1.length) (c9_0), Value.slice q39_0_A7 ((d2.2.2.2.2.2.2.2.map lentC).length) (q39_0_c7)].toArray 61 (0, 0)), m43, m46, m9, q39_0_n7]) [Value.slice (some ⟨g58, 0, none⟩) (4) (4)] [(takeOf d0 d1 d2).1, (takeOf d0 d1 d2).1, d1, d2.2.2.2.2.2.2.2] := Ow.lit 4 (Seps.grp1 (ls := [[m43], [m46], [m9], [q39_0_n7]]) hg61) (OwAs.cons (m := muns [m43]) (c1 := [Value.slice A43_0 (((takeOf d0 d1 d2).1).length) (c43_0)]) (Ow.up f43_0 ((Seps.self hg61 (List.Sublist.cons _ (List.Sublist.cons_cons _ (List.Sublist.cons _ (List.Sublist.cons _ (List.Sublist.cons _ List.Sublist.slnil)))))).1 _ (.head _))) (OwAs.cons (m := muns [m46]) (c1 := [Value.slice A46_0 (((takeOf d0 d1 d2).1).length) (c46_0)]) (Ow.up f46_0 ((Seps.self hg61 (List.Sublist.cons _ (List.Sublist.cons _ (List.Sublist.cons_cons _ (List.Sublist.cons _ (List.Sublist.cons _ List.Sublist.slnil)))))).1 _ (.head _))) (OwAs.cons (m := muns [m9]) (c1 := [Value.slice A9_0 (d1.length) (c9_0)]) (Ow.up (lent_ow (f9_0.pre (j := d1.length) bd)) ((Seps.self hg61 (List.Sublist.cons _ (List.Sublist.cons _ (List.Sublist.cons _ (List.Sublist.cons_cons _ (List.Sublist.cons _ List.Sublist.slnil)))))).1 _ (.head _))) (OwAs.cons (m := muns [q39_0_n7]) (c1 := [Value.slice q39_0_A7 ((d2.2.2.2.2.2.2.2.map lentC).length) (q39_0_c7)]) (Ow.up (lentm_ow q39_0_p7) ((Seps.self hg61 (List.Sublist.cons _ (List.Sublist.cons _ (List.Sublist.cons _ (List.Sublist.cons _ (List.Sublist.cons_cons _ List.Sublist.slnil)))))).1 _ (.head _))) OwAs.nil)))) rfl rfl
                      refine VO.call 162 rfl fnOk76 rfl rfl (fun W hW => ApartCommits_ok W (hW.at (i := 162) rfl) ho61 bd (by exact (four_a (take_le4 _ _ _) (take_le4 _ _ _) (by omega) (by omega)).1) (by exact (four_a (take_le4 _ _ _) (take_le4 _ _ _) (by omega) (by omega)).2) (by exact four_b take_mem take_mem (Decidable.not_not.1 ‹¬ ¬ ((∀ c ∈ d1, c.2.2.length ≤ 40) ∧ _)›).1 (Decidable.not_not.1 ‹¬ ¬ ((∀ c ∈ d2.2.2.2.2.2.2.2, c.2.2.length ≤ 40) ∧ _)›).1 e0 e1)) (fun v60 m60 hv60 => ?_)
                      subst hv60
                      refine VO.as ?_
                      refine VO.k22 0 1 2 3 6 8 9 10 11 12 13 14 15 17 18 19 20 21 22 24 39 122 ?_
                      refine outN ?_
                      refine VC.ret ?_
                      refine ⟨_, _, res_run (rs := [.tmp 8]) rfl (.tmp rfl .nil), fun W_ hI => out_of (l := []) hI [] rfl rfl (mle_refl _) (fun hS_ => ?_)⟩
                      dsimp only [packV]
                      all_goals (first | rfl | (simp [*]; done))
        · -- FFF1
          refine VI.alloc 164 rfl rfl tz72 (fun _ _ h => Inv.sbK [102, 0] h) (fun g63 => ?_)
          refine VE.tree [1] (by kernel_rfl) ⟨?_, trivial⟩
          refine VI.callN 165 rfl rfl (.inl rfl) fnOk53 rfl (fun _ h => Inv.sbK [102, 0] h) (fun W hW => LentCommits_ok W (Rd.mono h1 (hW.at (i := 0) rfl)) bd (by exact fun c hc => by have h_ := (Decidable.not_not.1 ‹¬ ¬ ((∀ c ∈ d1, c.2.2.length ≤ 40) ∧ _)›).1 c hc; omega)) (fun v65 m65 hv65 => ?_)
          obtain ⟨s65_0, rfl, f65_0⟩ := hv65
          have hfa66 := lent_len d1
          obtain ⟨A65_0, c65_0, eq65_0, l65_0, k65_0⟩ := f65_0.slice
          subst eq65_0
          simp only [maxLen] at k65_0
          refine VE.tree [3] (by kernel_rfl) ⟨?_, trivial⟩
          refine VI.callN 167 rfl rfl (.inl rfl) fnOk83 rfl (fun _ h => Inv.sbK [102, 0] h) (fun W hW => LentMessage_ok W (Rd.mono h2 (hW.at (i := 0) rfl)) bd bd (by exact fun c hc => by have h_ := (Decidable.not_not.1 ‹¬ ¬ ((∀ c ∈ d2.2.2.2.2.2.2.2, c.2.2.length ≤ 40) ∧ _)›).1 c hc; omega)) (fun v67 m67 hv67 => ?_)
          obtain ⟨s67_0, rfl, f67_0⟩ := hv67
          obtain ⟨q67_0_A4, q67_0_c4, q67_0_A7, q67_0_c7, q67_0_n4, q67_0_n7, rfl, q67_0_S, q67_0_0, q67_0_1, q67_0_2, q67_0_3, q67_0_4, q67_0_5, q67_0_6, q67_0_7⟩ := openO_LMessage (x0 := d2.1) (x1 := d2.2.1) (x2 := d2.2.2.1) (x3 := d2.2.2.2.1) (x4 := (d2.2.2.2.2.1, spareS)) (x5 := d2.2.2.2.2.2.1) (x6 := d2.2.2.2.2.2.2.1) (x7 := (d2.2.2.2.2.2.2.2.map lentC, spareC)) f67_0
          simp only [inK] at q67_0_0
          simp only [inK] at q67_0_1
          simp only [inK] at q67_0_2
          simp only [inK] at q67_0_3
          have q67_0_f4 := (Rd.full (q67_0_4.rd (mle_refl _))).2
          have q67_0_s4 := Rd.pre2 q67_0_f4
          have q67_0_r4 := Rd.room q67_0_f4
          dsimp only at q67_0_f4 q67_0_s4 q67_0_r4
          have q67_0_o4 := (Ow.full q67_0_4).2
          have q67_0_p4 := Ow.pre2 q67_0_o4
          dsimp only at q67_0_o4 q67_0_p4
          simp only [inK] at q67_0_5
          simp only [inK] at q67_0_6
          have q67_0_f7 := (Rd.full (q67_0_7.rd (mle_refl _))).2
          have q67_0_s7 := Rd.pre2 q67_0_f7
          have q67_0_r7 := Rd.room q67_0_f7
          have q67_0_m7 : (d2.2.2.2.2.2.2.2.map lentC).length = d2.2.2.2.2.2.2.2.length := List.length_map ..
          dsimp only at q67_0_f7 q67_0_s7 q67_0_r7
          have q67_0_o7 := (Ow.full q67_0_7).2
          have q67_0_p7 := Ow.pre2 q67_0_o7
          dsimp only at q67_0_o7 q67_0_p7
          refine VE.inv _ (fun _ h => h.parts (i := 167) rfl q67_0_S [168, 169]) ?_
          refine VE.nil (by kernel_rfl) rfl ?_ rfl
          refine VO.as ?_
          refine VO.store (k := 8) 164 rfl rfl (.inl tk72) rfl rfl rfl rfl rfl ?_
          refine VO.k10 0 1 2 3 6 8 9 10 24 39 ?_
          refine outN ?_
          refine VC.seq ?_
          refine VC.regD _ 11 [(0, true), (1, true), (2, true), (3, true), (4, true), (5, true), (6, false), (7, true), (8, true), (9, true), (10, true)] follows (by kernel_rfl) (fun _ h => h.sub [168, 169, 165, 164, 102, 0]) ?_
          refine VD.y rfl rfl (.inl rfl) (.mv rfl) ?_
          refine VD.y rfl rfl (.inl rfl) (.mv rfl) ?_
          refine VD.y rfl rfl (.inl rfl) (.mv rfl) ?_
          refine VD.y rfl rfl (.inl rfl) (.lenS rfl tsl61) ?_
          have hs70 := (Ow.rd f65_0 (mle_refl _)).pre (j := d1.length) bd
          refine VD.y rfl rfl (.inl rfl) (.slHI d1.length rfl rfl tsl61 rfl bd) ?_
          refine VD.y rfl rfl (.inl rfl) (.ldA 164 rfl tk72 rfl (cellsAt_one rfl rfl)) ?_
          refine VD.callN 171 rfl rfl (.inl rfl) fnOk78 rfl (fun _ h => h.sub [168, 169, 165, 164, 102, 0]) (fun W hW => take_ok W d0 bdk (lent_rd (Ow.rd (f65_0.pre (j := d1.length) bd) (hW.at (i := 165) rfl))) (show Rd TMessage _ _ d2 from (mk_Message (m := wm W) d2.1 d2.2.1 d2.2.2.1 d2.2.2.2.1 d2.2.2.2.2.1 d2.2.2.2.2.2.1 d2.2.2.2.2.2.2.1 d2.2.2.2.2.2.2.2 bdk bdk bdk bdk (OwnL.rd (Ow.ownl q67_0_p4 rfl mnil) (hW.at (i := 168) rfl) (mle_nil _)) bdk bdk (lentm_rd (Ow.rd q67_0_p7 (hW.at (i := 169) rfl)))))) (fun v71 m71 hv71 => ?_)
          obtain ⟨s71_0, rfl, f71_0⟩ := hv71
          obtain ⟨A71_0, c71_0, eq71_0, l71_0, k71_0⟩ := f71_0.slice
          subst eq71_0
          simp only [maxLen] at k71_0
          refine VD.y rfl rfl (.inl rfl) (.mv rfl) ?_
          refine VD.y rfl rfl (.inl rfl) (.ext rfl rfl) ?_
          refine VD.y rfl rfl (.inl rfl) (.ext rfl rfl) ?_
          refine VD.y rfl rfl (.inl rfl) (.as rfl) ?_
          refine VD.nil rfl ?_ rfl
          refine VO.as ?_
          refine VO.k12 0 1 2 3 6 8 9 10 11 12 24 39 ?_
          refine outN ?_
          refine VC.rs ?_
          refine VO.mv ?_
          refine VO.mv ?_
          refine VO.y rfl (.ldA 102 rfl tk72 rfl (cellsAt_one rfl rfl)) ?_
          refine VO.callN 172 rfl fnOk84 rfl (fun W hW => take18_ok W d0 bdk (Rd.mono h1 (hW.at (i := 0) rfl)) (Rd.mono h2 (hW.at (i := 0) rfl))) (fun v72 m72 hv72 => ?_)
          obtain ⟨s72_0, rfl, f72_0⟩ := hv72
          obtain ⟨A72_0, c72_0, eq72_0, l72_0, k72_0⟩ := f72_0.slice
          subst eq72_0
          simp only [maxLen] at k72_0
          refine VO.mv ?_
          refine VO.y rfl (.ext rfl rfl) ?_
          refine VO.y rfl (.ext rfl rfl) ?_
          refine VO.as ?_
          refine VO.as ?_
          refine VO.kp [172, 171, 168, 169, 165, 164, 102, 0] [(172, m72), (171, m71), (168, q67_0_n4), (169, q67_0_n7), (165, m65), (164, mone g63 (.cells [Value.int .i64 (d2.1), Value.int .i64 (d2.2.1), Value.int .u8 (d2.2.2.1), Value.int .i64 (d2.2.2.2.1), Value.slice q67_0_A4 (d2.2.2.2.2.1.length) (q67_0_c4), Value.int .i64 (d2.2.2.2.2.2.1), Value.int .i64 (d2.2.2.2.2.2.2.1), Value.slice q67_0_A7 ((d2.2.2.2.2.2.2.2.map lentC).length) (q67_0_c7)].toArray 72 (0, 0))), (102, mone g1 (.cells [Value.int .i64 (d2.1), Value.int .i64 (d2.2.1), Value.int .u8 (d2.2.2.1), Value.int .i64 (d2.2.2.2.1), Value.slice p2_A4 (d2.2.2.2.2.1.length) (p2_c4), Value.int .i64 (d2.2.2.2.2.2.1), Value.int .i64 (d2.2.2.2.2.2.2.1), Value.slice p2_A7 (d2.2.2.2.2.2.2.2.length) (p2_c7)].toArray 72 (0, 0))), (0, wm W)] ?_
          refine VO.k14 0 1 2 3 6 8 9 10 11 12 13 14 24 39 ?_
          refine VC.seq ?_
          refine VC.regD _ 11 [(0, true), (1, true), (2, true), (3, true), (4, true), (5, true), (6, false), (7, true), (8, true), (9, true), (10, true)] follows (by kernel_rfl) (fun _ h => h.sub [172, 171, 168, 169, 165, 164, 102, 0]) ?_
          refine VD.y rfl rfl (.inl rfl) (.mv rfl) ?_
          refine VD.y rfl rfl (.inl rfl) (.mv rfl) ?_
          refine VD.y rfl rfl (.inl rfl) (.mv rfl) ?_
          refine VD.y rfl rfl (.inl rfl) (.lenS rfl tsl61) ?_
          have hs73 := (Ow.rd f65_0 (mle_refl _)).pre (j := d1.length) bd
          refine VD.y rfl rfl (.inl rfl) (.slHI d1.length rfl rfl tsl61 rfl bd) ?_
          refine VD.y rfl rfl (.inl rfl) (.ldA 164 rfl tk72 rfl (cellsAt_one rfl rfl)) ?_
          refine VD.callN 174 rfl rfl (.inl rfl) fnOk78 rfl (fun _ h => h.sub [172, 171, 168, 169, 165, 164, 102, 0]) (fun W hW => take_ok W d0 bdk (lent_rd (Ow.rd (f65_0.pre (j := d1.length) bd) (hW.at (i := 165) rfl))) (show Rd TMessage _ _ d2 from (mk_Message (m := wm W) d2.1 d2.2.1 d2.2.2.1 d2.2.2.2.1 d2.2.2.2.2.1 d2.2.2.2.2.2.1 d2.2.2.2.2.2.2.1 d2.2.2.2.2.2.2.2 bdk bdk bdk bdk (OwnL.rd (Ow.ownl q67_0_p4 rfl mnil) (hW.at (i := 168) rfl) (mle_nil _)) bdk bdk (lentm_rd (Ow.rd q67_0_p7 (hW.at (i := 169) rfl)))))) (fun v74 m74 hv74 => ?_)
          obtain ⟨s74_0, rfl, f74_0⟩ := hv74
          obtain ⟨A74_0, c74_0, eq74_0, l74_0, k74_0⟩ := f74_0.slice
          subst eq74_0
          simp only [maxLen] at k74_0
          refine VD.y rfl rfl (.inl rfl) (.mv rfl) ?_
          refine VD.y rfl rfl (.inl rfl) (.ext rfl rfl) ?_
          refine VD.y rfl rfl (.inl rfl) (.ext rfl rfl) ?_
          refine VD.y rfl rfl (.inl rfl) (.as rfl) ?_
          refine VD.nil rfl ?_ rfl
          refine VO.as ?_
          refine VO.k15 0 1 2 3 6 8 9 10 11 12 13 14 15 24 39 ?_
          refine outN ?_
          refine VC.rs ?_
          refine VO.mv ?_
          refine VO.mv ?_
          refine VO.y rfl (.ldA 164 rfl tk72 rfl (cellsAt_one rfl rfl)) ?_
          refine VO.callN 175 rfl fnOk80 rfl (fun W hW => known_ok W d0 bdk d3 bdk (show Rd TMessage _ _ d2 from (mk_Message (m := wm W) d2.1 d2.2.1 d2.2.2.1 d2.2.2.2.1 d2.2.2.2.2.1 d2.2.2.2.2.2.1 d2.2.2.2.2.2.2.1 d2.2.2.2.2.2.2.2 bdk bdk bdk bdk (OwnL.rd (Ow.ownl q67_0_p4 rfl mnil) (hW.at (i := 168) rfl) (mle_nil _)) bdk bdk (lentm_rd (Ow.rd q67_0_p7 (hW.at (i := 169) rfl)))))) (fun v75 m75 hv75 => ?_)
          subst hv75
          refine VO.mv ?_
          refine VO.y rfl (.ext rfl rfl) ?_
          refine VO.y rfl (.ext rfl rfl) ?_
          refine VO.y rfl (.ext rfl rfl) ?_
          refine VO.as ?_
          refine VO.as ?_
          refine VO.as ?_
          refine VO.k18 0 1 2 3 6 8 9 10 11 12 13 14 15 17 18 19 24 39 ?_
          refine VC.rs ?_
          refine VO.mv ?_
          refine VO.mv ?_
          refine VO.y rfl (.ldA 102 rfl tk72 rfl (cellsAt_one rfl rfl)) ?_
          refine VO.callN 176 rfl fnOk85 rfl (fun W hW => known18_ok W d0 bdk d3 bdk (Rd.mono h2 (hW.at (i := 0) rfl))) (fun v76 m76 hv76 => ?_)
          subst hv76
          refine VO.mv ?_
          refine VO.y rfl (.ext rfl rfl) ?_
          refine VO.y rfl (.ext rfl rfl) ?_
          refine VO.y rfl (.ext rfl rfl) ?_
          refine VO.as ?_
          refine VO.as ?_
          refine VO.as ?_
          refine VO.kp [174, 172, 171, 168, 169, 165, 164, 102, 0] [(174, m74), (172, m72), (171, m71), (168, q67_0_n4), (169, q67_0_n7), (165, m65), (164, mone g63 (.cells [Value.int .i64 (d2.1), Value.int .i64 (d2.2.1), Value.int .u8 (d2.2.2.1), Value.int .i64 (d2.2.2.2.1), Value.slice q67_0_A4 (d2.2.2.2.2.1.length) (q67_0_c4), Value.int .i64 (d2.2.2.2.2.2.1), Value.int .i64 (d2.2.2.2.2.2.2.1), Value.slice q67_0_A7 ((d2.2.2.2.2.2.2.2.map lentC).length) (q67_0_c7)].toArray 72 (0, 0))), (102, mone g1 (.cells [Value.int .i64 (d2.1), Value.int .i64 (d2.2.1), Value.int .u8 (d2.2.2.1), Value.int .i64 (d2.2.2.2.1), Value.slice p2_A4 (d2.2.2.2.2.1.length) (p2_c4), Value.int .i64 (d2.2.2.2.2.2.1), Value.int .i64 (d2.2.2.2.2.2.2.1), Value.slice p2_A7 (d2.2.2.2.2.2.2.2.length) (p2_c7)].toArray 72 (0, 0))), (0, wm W)] ?_
          refine VO.k21 0 1 2 3 6 8 9 10 11 12 13 14 15 17 18 19 20 21 22 24 39 ?_
          refine VC.seq ?_
          refine VC.rs ?_
          refine VO.mv ?_
          refine VO.mv ?_
          refine VO.y rfl (.neq rfl rfl) ?_
          refine VO.mv ?_
          refine VO.dec (t := 90) rfl (fun hc77 => ?_) (fun hc77 => ?_)
          · -- FFF1T
            exact absurd rfl hc77
          · -- FFF1F
            refine VO.gy rfl ⟨_, rfl, rfl⟩ (.mv rfl) ?_
            refine VO.gy rfl ⟨_, rfl, rfl⟩ (.mv rfl) ?_
            refine VO.gy rfl ⟨_, rfl, rfl⟩ (.neq rfl rfl) ?_
            refine VO.y rfl (.pF rfl rfl) ?_
            refine VO.mv ?_
            refine VO.dec (t := 95) rfl (fun hc78 => ?_) (fun hc78 => ?_)
            · -- FFF1FT
              exact absurd rfl hc78
            · -- FFF1FF
              refine VO.gy rfl ⟨_, rfl, rfl⟩ (.mv rfl) ?_
              refine VO.gy rfl ⟨_, rfl, rfl⟩ (.mv rfl) ?_
              refine VO.gy rfl ⟨_, rfl, rfl⟩ (.neq rfl rfl) ?_
              refine VO.y rfl (.pF rfl rfl) ?_
              refine VO.mv ?_
              refine VO.dec (t := 100) rfl (fun hc79 => ?_) (fun hc79 => ?_)
              · -- FFF1FFT
                exact absurd rfl hc79
              · -- FFF1FFF
                refine VO.gy rfl ⟨_, rfl, rfl⟩ (.mv rfl) ?_
                refine VO.gy rfl ⟨_, rfl, rfl⟩ (.mv rfl) ?_
                refine VO.gy rfl ⟨_, rfl, rfl⟩ (.bneq rfl rfl Try.underlying4) ?_
                refine VO.y rfl (.pF rfl rfl) ?_
                refine VO.mv ?_
                refine VO.dec (t := 105) rfl (fun hc80 => ?_) (fun hc80 => ?_)
                · -- FFF1FFFT
                  exact absurd rfl hc80
                · -- FFF1FFFF
                  refine VO.gy rfl ⟨_, rfl, rfl⟩ (.mv rfl) ?_
                  refine VO.gy rfl ⟨_, rfl, rfl⟩ (.mv rfl) ?_
                  refine VO.gcallN 181 rfl ⟨_, rfl, rfl⟩ fnOk69 rfl (fun W hW => SameCommits_ok W (Ow.rd f71_0 (hW.at (i := 171) rfl)) (Ow.rd f72_0 (hW.at (i := 172) rfl))) (fun v81 m81 hv81 => ?_)
                  subst hv81
                  refine VO.gy rfl ⟨_, rfl, rfl⟩ (.notD rfl) ?_
                  refine VO.y rfl (.pF rfl rfl) ?_
                  refine VO.mv ?_
                  refine VO.dec (t := 111) rfl (fun hc82 => ?_) (fun hc82 => ?_)
                  · -- FFF1FFFFT
                    exact absurd rfl hc82
                  · -- FFF1FFFFF
                    refine VO.gy rfl ⟨_, rfl, rfl⟩ (.mv rfl) ?_
                    refine VO.gy rfl ⟨_, rfl, rfl⟩ (.mv rfl) ?_
                    refine VO.gcallN 183 rfl ⟨_, rfl, rfl⟩ fnOk55 rfl (fun W hW => KeptCommits_ok W (Ow.rd f65_0 (hW.at (i := 165) rfl)) (Rd.mono h1 (hW.at (i := 0) rfl)) (by rfl) bd (by exact fun c hc => by have h_ := (Decidable.not_not.1 ‹¬ ¬ ((∀ c ∈ d1, c.2.2.length ≤ 40) ∧ _)›).1 c hc; omega)) (fun v83 m83 hv83 => ?_)
                    subst hv83
                    refine VO.gy rfl ⟨_, rfl, rfl⟩ (.not rfl) ?_
                    refine VO.y rfl (.pF rfl rfl) ?_
                    refine VO.mv ?_
                    refine VO.gy rfl ⟨_, rfl, rfl⟩ (.ldA 164 rfl tk72 rfl (cellsAt_one rfl rfl)) ?_
                    refine VO.gy rfl ⟨_, rfl, rfl⟩ (.ldA 102 rfl tk72 rfl (cellsAt_one rfl rfl)) ?_
                    refine VO.gcallN 184 rfl ⟨_, rfl, rfl⟩ fnOk86 rfl (fun W hW => KeptMessage_ok W (mk_LMessage (m := wm W) d2.1 d2.2.1 d2.2.2.1 d2.2.2.2.1 (d2.2.2.2.2.1, spareS) d2.2.2.2.2.2.1 d2.2.2.2.2.2.2.1 (d2.2.2.2.2.2.2.2.map lentC, spareC) bdk bdk bdk bdk (Rd.mono (Rd.mkSpl (e := TStart) (xs := (d2.2.2.2.2.1, spareS).1) (ys := (d2.2.2.2.2.1, spareS).2) q67_0_f4 rfl) (hW.at (i := 168) rfl)) bdk bdk (Rd.mono (Rd.mkSpl (e := TLCommit) (xs := (d2.2.2.2.2.2.2.2.map lentC, spareC).1) (ys := (d2.2.2.2.2.2.2.2.map lentC, spareC).2) q67_0_f7 rfl) (hW.at (i := 169) rfl))) (Rd.mono h2 (hW.at (i := 0) rfl)) (by rfl) bd bd (by exact fun c hc => by have h_ := (Decidable.not_not.1 ‹¬ ¬ ((∀ c ∈ d2.2.2.2.2.2.2.2, c.2.2.length ≤ 40) ∧ _)›).1 c hc; omega)) (fun v84 m84 hv84 => ?_)
                    try dsimp only at hv84
                    subst hv84
                    refine VO.gy rfl ⟨_, rfl, rfl⟩ (.not rfl) ?_
                    refine VO.y rfl (.pF rfl rfl) ?_
                    refine VO.k22 0 1 2 3 6 8 9 10 11 12 13 14 15 17 18 19 20 21 22 24 39 122 ?_
                    refine VC.condF rfl ?_
                    refine VC.skip ?_
                    refine outN ?_
                    refine VC.seq ?_
                    refine VC.regD _ 8 [(0, true), (1, true), (2, true), (3, true), (4, true), (5, true), (6, true), (7, true)] follows (by kernel_rfl) (fun _ h => h.sub [184, 183, 181, 174, 172, 171, 168, 169, 165, 164, 102, 0]) ?_
                    refine VD.y rfl rfl (.inl rfl) (.mv rfl) ?_
                    refine VD.y rfl rfl (.inl rfl) (.mv rfl) ?_
                    refine VD.y rfl rfl (.inl rfl) (.mv rfl) ?_
                    refine VD.y rfl rfl (.inl rfl) (.mv rfl) ?_
                    refine VD.y rfl rfl (.inl rfl) (.lenS rfl tsl61) ?_
                    have hs85 := (Ow.rd f65_0 (mle_refl _)).pre (j := d1.length) bd
                    refine VD.y rfl rfl (.inl rfl) (.slHI d1.length rfl rfl tsl61 rfl bd) ?_
                    refine VD.y rfl rfl (.inl rfl) (.fa rfl tst72 rfl) ?_
                    refine VD.y rfl rfl (.inl rfl) (.ld1 164 rfl tk61 rfl (cellsAt_one rfl rfl)) ?_
                    refine VD.nil rfl ?_ rfl
                    refine VO.bsl (cs := [Value.slice A71_0 (((takeOf d0 d1 d2).1).length) (c71_0), Value.slice A74_0 (((takeOf d0 d1 d2).1).length) (c74_0), Value.slice A65_0 (d1.length) (c65_0), Value.slice q67_0_A7 ((d2.2.2.2.2.2.2.2.map lentC).length) (q67_0_c7)]) 187 rfl rfl tsl81 tz61 rfl rfl (fun g86 => ?_)
                    refine VO.gather (l := [mone g86 (.cells [Value.slice A71_0 (((takeOf d0 d1 d2).1).length) (c71_0), Value.slice A74_0 (((takeOf d0 d1 d2).1).length) (c74_0), Value.slice A65_0 (d1.length) (c65_0), Value.slice q67_0_A7 ((d2.2.2.2.2.2.2.2.map lentC).length) (q67_0_c7)].toArray 61 (0, 0)), m71, m74, m65, q67_0_n7]) 190 [187, 171, 174, 165, 169] rfl (fun hg89 => ?_)
                    have ho89 : Ow (.sl (.sl TCommit)) (muns [mone g86 (.cells [Value.slice A71_0 (((takeOf d0 d1 d2).1).length) (c71_0), Value.slice A74_0 (((takeOf d0 d1 d2).1).length) (c74_0), Value.slice A65_0 (d1.length) (c65_0), Value.slice q67_0_A7 ((d2.2.2.2.2.2.2.2.map lentC).length) (q67_0_c7)].toArray 61 (0, 0)), m71, m74, m65, q67_0_n7]) [Value.slice (some ⟨g86, 0, none⟩) (4) (4)] [(takeOf d0 d1 d2).1, (takeOf d0 d1 d2).1, d1, d2.2.2.2.2.2.2.2] := Ow.lit 4 (Seps.grp1 (ls := [[m71], [m74], [m65], [q67_0_n7]]) hg89) (OwAs.cons (m := muns [m71]) (c1 := [Value.slice A71_0 (((takeOf d0 d1 d2).1).length) (c71_0)]) (Ow.up f71_0 ((Seps.self hg89 (List.Sublist.cons _ (List.Sublist.cons_cons _ (List.Sublist.cons _ (List.Sublist.cons _ (List.Sublist.cons _ List.Sublist.slnil)))))).1 _ (.head _))) (OwAs.cons (m := muns [m74]) (c1 := [Value.slice A74_0 (((takeOf d0 d1 d2).1).length) (c74_0)]) (Ow.up f74_0 ((Seps.self hg89 (List.Sublist.cons _ (List.Sublist.cons _ (List.Sublist.cons_cons _ (List.Sublist.cons _ (List.Sublist.cons _ List.Sublist.slnil)))))).1 _ (.head _))) (OwAs.cons (m := muns [m65]) (c1 := [Value.slice A65_0 (d1.length) (c65_0)]) (Ow.up (lent_ow (f65_0.pre (j := d1.length) bd)) ((Seps.self hg89 (List.Sublist.cons _ (List.Sublist.cons _ (List.Sublist.cons _ (List.Sublist.cons_cons _ (List.Sublist.cons _ List.Sublist.slnil)))))).1 _ (.head _))) (OwAs.cons (m := muns [q67_0_n7]) (c1 := [Value.slice q67_0_A7 ((d2.2.2.2.2.2.2.2.map lentC).length) (q67_0_c7)]) (Ow.up (lentm_ow q67_0_p7) ((Seps.self hg89 (List.Sublist.cons _ (List.Sublist.cons _ (List.Sublist.cons _ (List.Sublist.cons _ (List.Sublist.cons_cons _ List.Sublist.slnil)))))).1 _ (.head _))) OwAs.nil)))) rfl rfl
                    refine VO.call 190 rfl fnOk76 rfl rfl (fun W hW => ApartCommits_ok W (hW.at (i := 190) rfl) ho89 bd (by exact (four_a (take_le4 _ _ _) (take_le4 _ _ _) (by omega) (by omega)).1) (by exact (four_a (take_le4 _ _ _) (take_le4 _ _ _) (by omega) (by omega)).2) (by exact four_b take_mem take_mem (Decidable.not_not.1 ‹¬ ¬ ((∀ c ∈ d1, c.2.2.length ≤ 40) ∧ _)›).1 (Decidable.not_not.1 ‹¬ ¬ ((∀ c ∈ d2.2.2.2.2.2.2.2, c.2.2.length ≤ 40) ∧ _)›).1 e0 e1)) (fun v88 m88 hv88 => ?_)
                    subst hv88
                    refine VO.as ?_
                    refine VO.k22 0 1 2 3 6 8 9 10 11 12 13 14 15 17 18 19 20 21 22 24 39 122 ?_
                    refine outN ?_
                    refine VC.ret ?_
                    refine ⟨_, _, res_run (rs := [.tmp 8]) rfl (.tmp rfl .nil), fun W_ hI => out_of (l := []) hI [] rfl rfl (mle_refl _) (fun hS_ => ?_)⟩
                    dsimp only [packV]
                    all_goals (first | rfl | (simp [*]; done))
end
section
set_option linter.unusedVariables false
set_option maxRecDepth 4000
open Go.ChangeShapes Go.WideShapes Go.ChangeAt Go.RowKit
theorem takeCalls_ok1 : tyOk Try.prog 60 (.sl TCommit) (.inl 61) = true := by kernel_rfl
theorem takeCalls_ok2 : tyOk Try.prog 60 TMessage (.inl 72) = true := by kernel_rfl
set_option maxRecDepth 100000 in
theorem takeCalls_lifted (os : Os) (started : os.Started) (H : Type) (enc : TypeId × Value → H) :
    ReturnsInHanded {} Try.checked os 18 .any (Rows.takeCallsSpec.pre6 enc Try.prog Try.f18 Rows.takeCallsRow.domain false) (Rows.takeCallsSpec.post enc Try.prog Try.f18 false true false false) := by
  refine returnsInHanded_of_change_sized (C := Try.checked) (by kernel_rfl) started (by kernel_rfl) Try.func18
    (ChangeSpec.witness6 (enc := enc) (C := Try.checked) false ⟨#[], #[.int .i64 0, .slice none 0 0, .agg #[.int .i64 0, .int .i64 0, .int .u8 0, .int .i64 0, .slice none 0 0, .int .i64 0, .int .i64 0, .slice none 0 0], .int .i64 0], []⟩ 8 (by kernel_rfl) (by kernel_rfl) (by kernel_rfl) (by kernel_rfl)) ?_
  intro W base args ds gs before hval0 hW hcnd hsz0 _
  have hsz : (DataW.weightsEach Try.prog (Try.f18.params.toList ++ Rows.takeCallsSpec.plain.varTypes Try.prog) (ds ++ gs)).all (· ≤ reachBytes) = true := hsz0
  have hval : ∀ (j : Nat) t v, Try.f18.params[j]? = some t → args[j]? = some v → Value.okWide Try.prog W .any base t v := hval0
  have hW' := hW
  obtain ⟨p, q, hA0, hV, rfl, hfz, hnd⟩ := hW
  have hA : DataW.TrodAll enc Try.prog W 0 (fun _ => true) true Try.f18.params.toList args.toList ds p := hA0
  rw [Try.params18] at hA hval hsz
  clear hA0 hval0
  obtain ⟨args⟩ := args
  obtain ⟨v0, r0, d0, e0, p0, q0, ha0, rfl, rfl, h0, hA0⟩ := trodAll_cons hA
  simp only at ha0; subst ha0
  obtain ⟨v1, r1, d1, e1, p1, q1, ha1, rfl, rfl, h1, hA1⟩ := trodAll_cons hA0
  subst ha1
  obtain ⟨v2, r2, d2, e2, p2, q2, ha2, rfl, rfl, h2, hA2⟩ := trodAll_cons hA1
  subst ha2
  obtain ⟨v3, r3, d3, e3, p3, q3, ha3, rfl, rfl, h3, hA3⟩ := trodAll_cons hA2
  subst ha3
  obtain ⟨rfl, rfl, rfl⟩ := trodAll_nil hA3
  obtain ⟨x0, rfl, hx0⟩ := arg_int Try.underlying3 (hval 0 3 v0 rfl rfl) h0
  obtain ⟨x1, hx1, fit1⟩ := arg_slF (j := 1) 60 takeCalls_ok1 Try.underlying61 (hval 1 61 v1 rfl rfl) h1 hsz rfl rfl
  obtain ⟨c2, x2, rfl, hx2, fit2⟩ := arg_stF (j := 2) 60 takeCalls_ok2 Try.underlying72 (hval 2 72 v2 rfl rfl) h2 hsz rfl rfl
  obtain ⟨x3, rfl, hx3⟩ := arg_int Try.underlying3 (hval 3 3 v3 rfl rfl) h3
  have lim1 := arg_lim hsz (j := 1) rfl rfl Try.underlying61 (b := 40) (by kernel_rfl) h1 hx1
  refine (calls_of (takeCalls_ok W x0 hx0 hx1 hx2 x3 hx3 (by exact fun c hc o ho => txt_fit ((fit1.2 c hc).2.2.2 o ho).2.1) (by exact fun c hc o ho => txt_fit ((fit2.2.2.2.2.2.2.2.2 c hc).2.2.2 o ho).2.1))).mono fun e W' ⟨he, hg⟩ => ?_
  subst he
  exact ⟨_, rfl, law_post hW' hg laidOut_ok (by kernel_rfl) rfl Try.underlying4 rfl rfl rfl rfl⟩
theorem takeCalls_joined : joinedFacts Try.prog 18 Try.f18 Rows.takeCallsSpec Rows.takeCallsRow = true := by
  unfold joinedFacts
  rw [laidOut_ok, mapsRowed_ok, stopsHeard_ok, mayEnter_ok, lifts_ok, make_ok]
  kernel_rfl
theorem takeCalls_proved : Rows.TakeCallsSaid :=
  OpenClaim.holds_of_wide 18 Try.f18 rfl rfl rfl rfl rfl rfl rfl ⟨rfl, rfl, rfl, rfl, rfl⟩ rfl rfl rfl rfl rfl (by kernel_rfl) Try.func18 takeCalls_joined
    (of_decide_eq_true (by kernel_rfl)) (by unfold Func.isWrapper; first | (rw [if_pos (by decide +kernel)]; kernel_rfl) | (rw [if_neg (by decide +kernel)]; exact ⟨rfl, rfl⟩))
    (fun os started H enc _ => takeCalls_lifted os started H enc)
#print axioms takeCalls_proved
end
end Go.Proofs.Ytfaknkkaegjdaaa
