/- Part 5 of the proof of LRunTable: what it needs of the library, the walks and the plain laws. Conditions: those named in each theorem. -/
import Derived.Test.YtgmdjhdgaddigaaLRunTableM4
set_option linter.unusedVariables false
set_option linter.unusedSimpArgs false
set_option maxRecDepth 4000
namespace Go.Proofs.Ytgmdjhdgaddigaa
theorem fnOk10 : fnOk Try.prog 10 = true := by kernel_rfl
theorem fnOk11 : fnOk Try.prog 11 = true := by kernel_rfl
theorem fnOk12 : fnOk Try.prog 12 = true := by kernel_rfl
theorem fnOk13 : fnOk Try.prog 13 = true := by kernel_rfl
theorem fnOk9 : fnOk Try.prog 9 = true := by kernel_rfl
theorem example13_ok (W : World) : CallR Try.prog 12 [] W (mnil) (fun v m' => ∃ (s0 : List Value), v = .agg s0.toArray ∧ Ow TRun m' s0 (exR)) := by
  refine CallR.ofA (n := 5) Try.func12 rfl rfl rfl ?_
  refine VC.rs ?_
  refine VO.alloc 102 rfl tz32 (fun g1 => ?_)
  refine VO.k1 0 ?_
  refine VC.rs ?_
  refine VO.y rfl (.bst (cs := [Value.bool false, str ([97]), str ([])]) rfl tst35 tz35 rfl) ?_
  refine VO.y rfl (.bst (cs := [Value.bool true, str ([98]), str ([49])]) rfl tst35 tz35 rfl) ?_
  refine VO.bsl (cs := [Value.bool false, str ([97]), str ([]), Value.bool true, str ([98]), str ([49])]) 104 rfl rfl tsl30 tz35 rfl rfl (fun g3 => ?_)
  refine VO.y rfl (.bst (cs := [Value.int .i64 (1), Value.int .i64 (2), Value.slice (some ⟨g3, 0, none⟩) (2) (2)]) rfl tst32 tz32 rfl) ?_
  refine VO.store (k := 3) (c' := [Value.int .i64 (1), Value.int .i64 (2), Value.slice (some ⟨g3, 0, none⟩) (2) (2)]) 102 rfl rfl (.inl tk32) rfl rfl rfl rfl rfl ?_
  refine VO.k1 0 ?_
  refine VC.ret ?_
  have ho5 : OwnL TOp (mone g3 (.cells [Value.bool false, str ([97]), str ([]), Value.bool true, str ([98]), str ([49])].toArray 35 (0, 0))) mnil (Value.slice (some ⟨g3, 0, none⟩) (2) (2)) [(false, [97], []), (true, [98], [49])] := OwnL.lit 2 (All2c.cons (c1 := [Value.bool false, str ([97]), str ([])]) (mk_Op (m := _) false ([97]) [] bdm bdm) (All2c.cons (c1 := [Value.bool true, str ([98]), str ([49])]) (mk_Op (m := _) true ([98]) ([49]) bdm bdm) All2c.nil)) rfl rfl
  refine ⟨_, _, res_run (rs := [.cell 0 32]) rfl (.agg 102 rfl tk32 rfl ⟨_, _, _, mone_self _ _, Nat.le_of_ble_eq_true rfl, rfl⟩ .nil), fun W_ hI => out_of (l := [mone g3 (.cells [Value.bool false, str ([97]), str ([]), Value.bool true, str ([98]), str ([49])].toArray 35 (0, 0))]) hI [104] rfl rfl (mle_refl _) (fun hS_ => ?_)⟩
  dsimp only [packV]
  have he0 : (exR : Ty.Den TRun) = (1, 2, [(false, [97], []), (true, [98], [49])]) := by first | rfl | (simp [*]; done)
  refine ⟨[Value.int .i64 (1), Value.int .i64 (2), Value.slice (some ⟨g3, 0, none⟩) (2) (2)], ?_, ?_⟩
  rotate_left
  · rw [he0]; exact (mkO_Run 1 2 ([(false, [97], []), (true, [98], [49])]) hS_ bdk bdk (OwnL.ow ho5 rfl))
  all_goals (first | rfl | (simp [*]; done))
set_option maxHeartbeats 4000000 in
theorem lives13_ok (W : World) : CallR Try.prog 8 [] W (mnil) (fun v m' => v = .bool true) := by
  refine CallR.ofA (n := 59) Try.func8 rfl rfl rfl ?_
  refine VC.rs ?_
  refine VO.as ?_
  refine VO.k1 0 ?_
  refine VC.rs ?_
  refine VO.callN 101 rfl fnOk12 rfl (fun W hW => example13_ok W ) (fun v1 m1 hv1 => ?_)
  obtain ⟨s1_0, rfl, f1_0⟩ := hv1
  obtain ⟨q1_0_A2, q1_0_c2, q1_0_n2, rfl, q1_0_S, q1_0_0, q1_0_1, q1_0_2⟩ := openO_Run (x0 := exR.1) (x1 := exR.2.1) (x2 := exR.2.2) f1_0
  simp only [inK] at q1_0_0
  simp only [inK] at q1_0_1
  have q1_0_r2 := q1_0_2.rm
  refine VO.inv _ (fun _ h => h.parts (i := 101) rfl q1_0_S [102]) ?_
  refine VO.callN 103 rfl fnOk17 rfl (fun W hW => runEncode_ok W (show Rd TRun _ _ exR from (mk_Run (m := wm W) exR.1 exR.2.1 exR.2.2 bdk bdk (OwnL.rd (Ow.ownl q1_0_2 rfl mnil) (hW.at (i := 102) rfl) (mle_nil _))))) (fun v3 m3 hv3 => ?_)
  obtain ⟨s3_0, rfl, f3_0⟩ := hv3
  have hfa4 := runEncode_len exR
  obtain ⟨A3_0, c3_0, eq3_0, l3_0, k3_0⟩ := f3_0.slice
  subst eq3_0
  simp only [maxLen] at k3_0
  refine VO.mv ?_
  refine VO.y rfl (.ext rfl rfl) ?_
  refine VO.y rfl (.ext rfl rfl) ?_
  refine VO.as ?_
  refine VO.as ?_
  refine VO.k3 0 1 2 ?_
  refine VC.rs ?_
  refine VO.callN 105 rfl fnOk10 rfl (fun W hW => dNew_ok W ) (fun v5 m5 hv5 => ?_)
  obtain ⟨s5_0, rfl, f5_0⟩ := hv5
  have hfa6 := okD_new
  have hfa7 := (show wD newD = 0 from rfl)
  by_cases hsp8 : (uOpen newD).2 = 0
  · -- T
    refine VO.call 105 rfl fnOk9 rfl rfl (fun W hW => uOpenY_ok W (hW.at (i := 105) rfl) f5_0 (by assumption) (by first | (simp only [ru0, ru0l, ru1, ru2, ru3, ruE, ruG1, ruG2, ruG3, ruG4, ruN1, ruC1, ruC2, ruC3]; decide +kernel) | decide +kernel) (by assumption)) (fun v9 m9 hv9 => ?_)
    obtain ⟨s9_0, rfl, f9_0⟩ := hv9
    have hfa10 := (uopen_ok (show okD newD by assumption))
    have hfa11 := (uopen_w (show okD newD by assumption))
    have hfa12 := (runF_ok (dRead newD 2).1).1
    refine VO.mv ?_
    refine VO.y rfl (.ext rfl rfl) ?_
    refine VO.y rfl (.ext rfl rfl) ?_
    refine VO.as ?_
    refine VO.as ?_
    refine VO.kp [105, 103, 0] [(105, m9), (103, m3), (0, wm W)] ?_
    refine VO.k5 0 1 2 3 4 ?_
    refine VC.seq ?_
    refine VC.rs ?_
    refine VO.mv ?_
    refine VO.y rfl (.neq rfl rfl) ?_
    refine VO.mv ?_
    refine VO.dec (t := 20) rfl (fun hc13 => ?_) (fun hc13 => ?_)
    · -- TT
      first | exact absurd rfl hc13 | exact absurd (by first | rfl | decide | (simp only [ru0, ru0l, ru1, ru2, ru3, ruE, ruG1, ruG2, ruG3, ruG4, ruN1, ruC1, ruC2, ruC3]; first | done | rfl | decide | omega)) hc13 | exact absurd hc13 (by first | decide | (simp only [ru0, ru0l, ru1, ru2, ru3, ruE, ruG1, ruG2, ruG3, ruG4, ruN1, ruC1, ruC2, ruC3]; first | done | rfl | decide | omega)) | (simp only [ru0, ru0l, ru1, ru2, ru3, ruE, ruG1, ruG2, ruG3, ruG4, ruN1, ruC1, ruC2, ruC3] at hc13; first | done | exact absurd hc13 (by decide) | exact absurd rfl hc13)
    · -- TF
      refine VO.gy rfl ⟨_, rfl, rfl⟩ (.mv rfl) ?_
      refine VO.gy rfl ⟨_, rfl, rfl⟩ (.neq rfl rfl) ?_
      refine VO.y rfl (.pF rfl rfl) ?_
      refine VO.mv ?_
      refine VO.dec (t := 24) rfl (fun hc14 => ?_) (fun hc14 => ?_)
      · -- TFT
        first | exact absurd rfl hc14 | exact absurd (by first | rfl | decide | (simp only [ru0, ru0l, ru1, ru2, ru3, ruE, ruG1, ruG2, ruG3, ruG4, ruN1, ruC1, ruC2, ruC3]; first | done | rfl | decide | omega)) hc14 | exact absurd hc14 (by first | decide | (simp only [ru0, ru0l, ru1, ru2, ru3, ruE, ruG1, ruG2, ruG3, ruG4, ruN1, ruC1, ruC2, ruC3]; first | done | rfl | decide | omega)) | (simp only [ru0, ru0l, ru1, ru2, ru3, ruE, ruG1, ruG2, ruG3, ruG4, ruN1, ruC1, ruC2, ruC3] at hc14; first | done | exact absurd hc14 (by decide) | exact absurd rfl hc14)
      · -- TFF
        refine VO.gy rfl ⟨_, rfl, rfl⟩ (.mv rfl) ?_
        refine VO.gy rfl ⟨_, rfl, rfl⟩ (.pnil rfl rfl Try.underlying23 rfl) ?_
        refine VO.y rfl (.pF rfl rfl) ?_
        refine VO.mv ?_
        refine VO.gy rfl ⟨_, rfl, rfl⟩ (.mv rfl) ?_
        refine VO.gbsl (cs := [Value.int .u8 (1), Value.int .u8 (2), Value.int .u8 (2), Value.int .u8 (0), Value.int .u8 (1), Value.int .u8 (97), Value.int .u8 (1), Value.int .u8 (1), Value.int .u8 (98), Value.int .u8 (1), Value.int .u8 (49)]) 116 rfl ⟨_, rfl, rfl⟩ rfl tsl38 tz5 rfl rfl (fun g15 => ?_)
        have ho18 : OwnL .byte (mone g15 (.cells [Value.int .u8 (1), Value.int .u8 (2), Value.int .u8 (2), Value.int .u8 (0), Value.int .u8 (1), Value.int .u8 (97), Value.int .u8 (1), Value.int .u8 (1), Value.int .u8 (98), Value.int .u8 (1), Value.int .u8 (49)].toArray 5 (0, 0))) mnil (Value.slice (some ⟨g15, 0, none⟩) (11) (11)) [UInt8.ofNat 1, UInt8.ofNat 2, UInt8.ofNat 2, UInt8.ofNat 0, UInt8.ofNat 1, UInt8.ofNat 97, UInt8.ofNat 1, UInt8.ofNat 1, UInt8.ofNat 98, UInt8.ofNat 1, UInt8.ofNat 49] := OwnL.lit 11 (All2c.cons (c1 := [Value.int .u8 (1)]) (rd_byteN bd) (All2c.cons (c1 := [Value.int .u8 (2)]) (rd_byteN bd) (All2c.cons (c1 := [Value.int .u8 (2)]) (rd_byteN bd) (All2c.cons (c1 := [Value.int .u8 (0)]) (rd_byteN bd) (All2c.cons (c1 := [Value.int .u8 (1)]) (rd_byteN bd) (All2c.cons (c1 := [Value.int .u8 (97)]) (rd_byteN bd) (All2c.cons (c1 := [Value.int .u8 (1)]) (rd_byteN bd) (All2c.cons (c1 := [Value.int .u8 (1)]) (rd_byteN bd) (All2c.cons (c1 := [Value.int .u8 (98)]) (rd_byteN bd) (All2c.cons (c1 := [Value.int .u8 (1)]) (rd_byteN bd) (All2c.cons (c1 := [Value.int .u8 (49)]) (rd_byteN bd) All2c.nil))))))))))) rfl rfl
        refine VO.gcallN 117 rfl ⟨_, rfl, rfl⟩ fnOk22 rfl (fun W hW => SameBytes_ok W (OwnL.rd (Ow.ownl f3_0 rfl mnil) (hW.at (i := 103) rfl) (mle_nil _)) (OwnL.rd ho18 (hW.at (i := 116) rfl) (mle_nil _))) (fun v17 m17 hv17 => ?_)
        subst hv17
        refine VO.gy rfl ⟨_, rfl, rfl⟩ (.notD rfl) ?_
        refine VO.y rfl (.pF rfl rfl) ?_
        refine VO.mv ?_
        refine VO.dec (t := 34) rfl (fun hc19 => ?_) (fun hc19 => ?_)
        · -- TFFT
          first | exact absurd rfl hc19 | exact absurd (by first | rfl | decide | (simp only [ru0, ru0l, ru1, ru2, ru3, ruE, ruG1, ruG2, ruG3, ruG4, ruN1, ruC1, ruC2, ruC3]; first | done | rfl | decide | omega)) hc19 | exact absurd hc19 (by first | decide | (simp only [ru0, ru0l, ru1, ru2, ru3, ruE, ruG1, ruG2, ruG3, ruG4, ruN1, ruC1, ruC2, ruC3]; first | done | rfl | decide | omega)) | (simp only [ru0, ru0l, ru1, ru2, ru3, ruE, ruG1, ruG2, ruG3, ruG4, ruN1, ruC1, ruC2, ruC3] at hc19; first | done | exact absurd hc19 (by decide) | exact absurd rfl hc19)
        · -- TFFF
          refine VO.gy rfl ⟨_, rfl, rfl⟩ (.mv rfl) ?_
          refine VO.gcallN 120 rfl ⟨_, rfl, rfl⟩ fnOk12 rfl (fun W hW => example13_ok W ) (fun v20 m20 hv20 => ?_)
          obtain ⟨s20_0, rfl, f20_0⟩ := hv20
          obtain ⟨q20_0_A2, q20_0_c2, q20_0_n2, rfl, q20_0_S, q20_0_0, q20_0_1, q20_0_2⟩ := openO_Run (x0 := exR.1) (x1 := exR.2.1) (x2 := exR.2.2) f20_0
          simp only [inK] at q20_0_0
          simp only [inK] at q20_0_1
          have q20_0_r2 := q20_0_2.rm
          refine VO.inv _ (fun _ h => h.parts (i := 120) rfl q20_0_S [121]) ?_
          refine VO.gcall 105 rfl ⟨_, rfl, rfl⟩ fnOk11 rfl rfl (fun W hW => uFlush_ok W (hW.at (i := 105) rfl) f9_0 (show Rd TRun _ _ exR from (mk_Run (m := mout (wm W) (m9)) exR.1 exR.2.1 exR.2.2 bdk bdk (OwnL.rd (Ow.ownl q20_0_2 rfl mnil) (hW.out (i := 105) (j := 121) rfl rfl) (mle_nil _)))) (by assumption) (by first | (simp only [ru0, ru0l, ru1, ru2, ru3, ruE, ruG1, ruG2, ruG3, ruG4, ruN1, ruC1, ruC2, ruC3]; decide +kernel) | decide +kernel) (by assumption)) (fun v22 m22 hv22 => ?_)
          try dsimp only at hv22
          obtain ⟨rfl, w22_0⟩ := hv22
          have hfa23 := (flush_ok (br := false) (l := ((runF (dRead newD 2).1).1)) (x := exR) (show okD ((uOpen newD).1) by assumption))
          have hfa24 := (flush_w (br := false) (l := ((runF (dRead newD 2).1).1)) (x := exR) (show okD ((uOpen newD).1) by assumption))
          have hfa25 := (flush_okU (d := ((uOpen newD).1)) (br := false) (x := exR) (show okU ((runF (dRead newD 2).1).1) by assumption))
          refine VO.gy rfl ⟨_, rfl, rfl⟩ (.neq rfl rfl) ?_
          refine VO.y rfl (.pF rfl rfl) ?_
          refine VO.k6 0 1 2 3 4 39 ?_
          refine VC.cond rfl (fun hc26 => ?_) (fun hc26 => ?_)
          · -- TFFFT
            first | exact absurd rfl hc26 | exact absurd (by first | rfl | decide | (simp only [ru0, ru0l, ru1, ru2, ru3, ruE, ruG1, ruG2, ruG3, ruG4, ruN1, ruC1, ruC2, ruC3]; first | done | rfl | decide | omega)) hc26 | exact absurd hc26 (by first | decide | (simp only [ru0, ru0l, ru1, ru2, ru3, ruE, ruG1, ruG2, ruG3, ruG4, ruN1, ruC1, ruC2, ruC3]; first | done | rfl | decide | omega)) | (simp only [ru0, ru0l, ru1, ru2, ru3, ruE, ruG1, ruG2, ruG3, ruG4, ruN1, ruC1, ruC2, ruC3] at hc26; first | done | exact absurd hc26 (by decide) | exact absurd rfl hc26)
          · -- TFFFF
            refine VC.skip ?_
            refine outN ?_
            refine VC.rs ?_
            refine VO.mv ?_
            obtain ⟨q28_E, q28_A2, q28_c2, q28_n0, q28_n2, _, q28_S, q28_0, q28_2⟩ := openP_runRuns (x0 := (s5_0, (uFlush ((uOpen newD).1) false ((runF (dRead newD 2).1).1) exR).1.1)) (x1 := (uFlush ((uOpen newD).1) false ((runF (dRead newD 2).1).1) exR).1.2.1) (x2 := (uFlush ((uOpen newD).1) false ((runF (dRead newD 2).1).1) exR).1.2.2) w22_0
            dsimp only at q28_0
            have q28_r2 := q28_2.rm
            refine VO.inv _ (fun _ h => h.parts (i := 105) rfl q28_S [131, 129, 130]) ?_
            refine VO.call 131 rfl fnOk13 rfl rfl (fun W hW => uGet_ok W (d0 := ((some s5_0), (uFlush ((uOpen newD).1) false ((runF (dRead newD 2).1).1) exR).1.2)) (hW.at (i := 131) rfl) (Ow.rd q28_2 (hW.out (i := 131) (j := 130) rfl rfl)) ([98]) bdm (by assumption) (by first | assumption | simp)) (fun v27 m27 hv27 => ?_)
            try dsimp only at hv27
            obtain ⟨rfl, rfl⟩ := hv27
            refine VO.mv ?_
            refine VO.y rfl (.ext rfl rfl) ?_
            refine VO.y rfl (.ext rfl rfl) ?_
            refine VO.y rfl (.ext rfl rfl) ?_
            refine VO.as ?_
            refine VO.as ?_
            refine VO.as ?_
            refine VO.clsP 132 [131, 129, 130] rfl (fun hg32 => (mkP_runRuns (s5_0, (uFlush ((uOpen newD).1) false ((runF (dRead newD 2).1).1) exR).1.1) ((uFlush ((uOpen newD).1) false ((runF (dRead newD 2).1).1) exR).1.2.1) ((uFlush ((uOpen newD).1) false ((runF (dRead newD 2).1).1) exR).1.2.2) hg32 q28_0 q28_2)) (fun mc32 ho32 => ?_)
            refine VO.k9 0 1 2 3 4 5 6 7 39 ?_
            refine VC.rs ?_
            refine VO.mv ?_
            refine VO.call 132 rfl fnOk28 rfl rfl (fun W hW => uEnd_ok W (hW.at (i := 132) rfl) ho32 (by assumption)) (fun v33 m33 hv33 => ?_)
            try dsimp only at hv33
            obtain ⟨rfl, w33_0⟩ := hv33
            refine VO.y rfl (.eql rfl rfl) ?_
            refine VO.mv ?_
            refine VO.dec (t := 49) rfl (fun hc34 => ?_) (fun hc34 => ?_)
            · -- TFFFFT
              refine VO.gy rfl ⟨_, rfl, rfl⟩ (.mv rfl) ?_
              refine VO.gy rfl ⟨_, rfl, rfl⟩ (.seql rfl rfl) ?_
              refine VO.y rfl (.pT rfl rfl) ?_
              refine VO.mv ?_
              refine VO.dec (t := 53) rfl (fun hc35 => ?_) (fun hc35 => ?_)
              · -- TFFFFTT
                refine VO.gy rfl ⟨_, rfl, rfl⟩ (.mv rfl) ?_
                refine VO.y rfl (.pT rfl rfl) ?_
                refine VO.mv ?_
                refine VO.decB (t := 56) rfl (fun hc36 => ?_) (fun hc36 => ?_)
                · -- TFFFFTTT
                  refine VO.gy rfl ⟨_, rfl, rfl⟩ (.mv rfl) ?_
                  refine VO.y rfl (.pT rfl rfl) ?_
                  refine VO.as ?_
                  refine VO.kp [132, 103, 0] [(132, m33), (103, m3), (0, wm W)] ?_
                  refine VO.k9 0 1 2 3 4 5 6 7 39 ?_
                  refine VC.ret ?_
                  refine ⟨_, _, res_run (rs := [.tmp 0]) rfl (.tmp rfl .nil), fun W_ hI => out_of (l := []) hI [] rfl rfl (mle_refl _) (fun hS_ => ?_)⟩
                  dsimp only [packV]
                  all_goals (first | rfl | (first | exact congrArg Value.bool (decide_eq_true (by (simp only [ru0, ru0l, ru1, ru2, ru3, ruE, ruG1, ruG2, ruG3, ruG4, ruN1, ruC1, ruC2, ruC3]; first | done | rfl | decide | omega))) | (show Value.bool _ = Value.bool true; simp only [ru0, ru0l, ru1, ru2, ru3, ruE, ruG1, ruG2, ruG3, ruG4, ruN1, ruC1, ruC2, ruC3]; done) | rfl))
                · -- TFFFFTTF
                  first | exact absurd rfl hc36 | exact absurd (by first | rfl | decide | (simp only [ru0, ru0l, ru1, ru2, ru3, ruE, ruG1, ruG2, ruG3, ruG4, ruN1, ruC1, ruC2, ruC3]; first | done | rfl | decide | omega)) hc36 | exact absurd hc36 (by first | decide | (simp only [ru0, ru0l, ru1, ru2, ru3, ruE, ruG1, ruG2, ruG3, ruG4, ruN1, ruC1, ruC2, ruC3]; first | done | rfl | decide | omega)) | (simp only [ru0, ru0l, ru1, ru2, ru3, ruE, ruG1, ruG2, ruG3, ruG4, ruN1, ruC1, ruC2, ruC3] at hc36; first | done | exact absurd hc36 (by decide) | exact absurd rfl hc36)
              · -- TFFFFTF
                first | exact absurd rfl hc35 | exact absurd (by first | rfl | decide | (simp only [ru0, ru0l, ru1, ru2, ru3, ruE, ruG1, ruG2, ruG3, ruG4, ruN1, ruC1, ruC2, ruC3]; first | done | rfl | decide | omega)) hc35 | exact absurd hc35 (by first | decide | (simp only [ru0, ru0l, ru1, ru2, ru3, ruE, ruG1, ruG2, ruG3, ruG4, ruN1, ruC1, ruC2, ruC3]; first | done | rfl | decide | omega)) | (simp only [ru0, ru0l, ru1, ru2, ru3, ruE, ruG1, ruG2, ruG3, ruG4, ruN1, ruC1, ruC2, ruC3] at hc35; first | done | exact absurd hc35 (by decide) | exact absurd rfl hc35)
            · -- TFFFFF
              first | exact absurd rfl hc34 | exact absurd (by first | rfl | decide | (simp only [ru0, ru0l, ru1, ru2, ru3, ruE, ruG1, ruG2, ruG3, ruG4, ruN1, ruC1, ruC2, ruC3]; first | done | rfl | decide | omega)) hc34 | exact absurd hc34 (by first | decide | (simp only [ru0, ru0l, ru1, ru2, ru3, ruE, ruG1, ruG2, ruG3, ruG4, ruN1, ruC1, ruC2, ruC3]; first | done | rfl | decide | omega)) | (simp only [ru0, ru0l, ru1, ru2, ru3, ruE, ruG1, ruG2, ruG3, ruG4, ruN1, ruC1, ruC2, ruC3] at hc34; first | done | exact absurd hc34 (by decide) | exact absurd rfl hc34)
  · -- F
    first | exact absurd rfl hsp8 | exact absurd (by first | rfl | decide | (simp only [ru0, ru0l, ru1, ru2, ru3, ruE, ruG1, ruG2, ruG3, ruG4, ruN1, ruC1, ruC2, ruC3]; first | done | rfl | decide | omega)) hsp8 | exact absurd hsp8 (by first | decide | (simp only [ru0, ru0l, ru1, ru2, ru3, ruE, ruG1, ruG2, ruG3, ruG4, ruN1, ruC1, ruC2, ruC3]; first | done | rfl | decide | omega)) | (simp only [ru0, ru0l, ru1, ru2, ru3, ruE, ruG1, ruG2, ruG3, ruG4, ruN1, ruC1, ruC2, ruC3] at hsp8; first | done | exact absurd hsp8 (by decide) | exact absurd rfl hsp8)
theorem run_ext {x y : DRun} (h1 : x.1 = y.1) (h2 : x.2.1 = y.2.1) (h3 : x.2.2 = y.2.2) : x = y := Prod.ext h1 (Prod.ext h2 h3)
theorem SameRuns_ok (W : World) {v0 : Value} {d0 : List DRun} (h0 : Rd (.sl TRun) (wm W) [v0] d0) {v1 : Value} {d1 : List DRun} (h1 : Rd (.sl TRun) (wm W) [v1] d1) : CallR Try.prog 23 [v0, v1] W (mnil) (fun v m' => v = .bool (decide (d0 = d1))) := by
  obtain ⟨A0, c0, rfl, l0, k0⟩ := h0.slice
  simp only [maxLen] at k0
  obtain ⟨A1, c1, rfl, l1, k1⟩ := h1.slice
  simp only [maxLen] at k1
  refine CallR.ofA (n := 55) Try.func23 rfl rfl rfl ?_
  refine VC.rs ?_
  refine VO.as ?_
  refine VO.k3 0 1 4 ?_
  refine VC.seq ?_
  refine VC.rs ?_
  refine VO.mv ?_
  refine VO.y rfl (.lenS rfl tsl47) ?_
  refine VO.mv ?_
  refine VO.y rfl (.lenS rfl tsl47) ?_
  refine VO.y rfl (.neq rfl rfl) ?_
  refine VO.k4 0 1 4 10 ?_
  refine VC.cond rfl (fun hc1 => ?_) (fun hc1 => ?_)
  · -- T
    refine VC.rs ?_
    refine VO.as ?_
    refine VO.kp [0] [(0, wm W)] ?_
    refine VO.k4 0 1 4 10 ?_
    refine VC.ret ?_
    refine outR ?_
    refine ⟨_, _, res_run (rs := [.tmp 4]) rfl (.tmp rfl .nil), fun W_ hI => out_of (l := []) hI [] rfl rfl (mle_refl _) (fun hS_ => ?_)⟩
    dsimp only [packV]
    all_goals (first | rfl | (simp [len_ne hc1]))
  · -- F
    refine VC.skip ?_
    refine outN ?_
    refine VC.seq ?_
    refine VC.rs ?_
    refine VO.as ?_
    refine VO.kp [0] [(0, wm W)] ?_
    refine VO.k5 0 1 4 5 10 ?_
    refine VC.block ?_
    refine VC.loop (G := Nat) (fun k => [(5, Value.int .i64 (((k : Nat) : Int))), (0, Value.slice A0 (d0.length) (c0)), (1, Value.slice A1 (d1.length) (c1)), (10, Value.bool (decide (¬ ((d0.length : Nat) : Int) = ((d1.length : Nat) : Int))))]) (fun k => [(0, wm W)]) (fun k => (k ≤ d0.length) ∧ (d0.take k = d1.take k)) (fun k => d0.length - k) 0 (⟨by omega, by rfl⟩) ⟨⟨rfl, rfl, rfl, rfl, trivial⟩, fun _ h => h.sub [0]⟩ ?_
    rintro k ⟨hk, ht⟩
    refine VC.seq ?_
    refine VC.rs ?_
    refine VO.mv ?_
    refine VO.mv ?_
    refine VO.y rfl (.lenS rfl tsl47) ?_
    refine VO.y rfl (.lss rfl rfl) ?_
    refine VO.k5 0 1 5 10 14 ?_
    refine VC.cond rfl (fun hc2 => ?_) (fun hc2 => ?_)
    · -- FT
      refine VC.skip ?_
      refine outN ?_
      refine VC.seq ?_
      refine VC.block ?_
      refine VC.seq ?_
      refine VC.regD _ 35 [(0, true), (1, true), (2, true), (3, true), (4, true), (5, true), (6, true), (7, true), (8, true), (9, true), (10, true), (11, true), (12, true), (13, true), (14, true), (15, true), (16, true), (17, true), (18, true), (19, true), (20, true), (21, true), (22, true), (23, true), (24, true), (25, true), (26, true), (27, true), (28, true), (29, true), (30, true), (31, true), (32, true), (33, true), (34, true)] follows (by kernel_rfl) (fun _ h => h.sub [0]) ?_
      refine VD.y rfl rfl (.inl rfl) (.mv rfl) ?_
      refine VD.y rfl rfl (.inl rfl) (.mv rfl) ?_
      obtain ⟨x3, hx3⟩ : ∃ z_, (d0)[k]? = some z_ := ⟨_, List.getElem?_eq_getElem bd⟩
      obtain ⟨gg3, oo3, ec3, ea3, hce3, hre3⟩ := h0.elem hx3
      cases ea3
      obtain ⟨q3_A2, q3_c2, rfl, q3_0, q3_1, q3_2⟩ := open_Run (x0 := x3.1) (x1 := x3.2.1) (x2 := x3.2.2) hre3
      simp only [inK] at q3_0
      simp only [inK] at q3_1
      have q3_r2 := Rd.room q3_2
      refine VD.y rfl rfl (.inl rfl) (.ixI k rfl rfl tsl47 rfl bd) ?_
      refine VD.y rfl rfl (.inl rfl) (.fa rfl tst32 rfl) ?_
      refine VD.y rfl rfl (.inl rfl) (.ld1 0 rfl tk3 rfl (hce3.at1 (j := 0) rfl)) ?_
      refine VD.y rfl rfl (.inl rfl) (.mv rfl) ?_
      refine VD.y rfl rfl (.inl rfl) (.mv rfl) ?_
      obtain ⟨x4, hx4⟩ : ∃ z_, (d1)[k]? = some z_ := ⟨_, List.getElem?_eq_getElem bd⟩
      obtain ⟨gg4, oo4, ec4, ea4, hce4, hre4⟩ := h1.elem hx4
      cases ea4
      obtain ⟨q4_A2, q4_c2, rfl, q4_0, q4_1, q4_2⟩ := open_Run (x0 := x4.1) (x1 := x4.2.1) (x2 := x4.2.2) hre4
      simp only [inK] at q4_0
      simp only [inK] at q4_1
      have q4_r2 := Rd.room q4_2
      refine VD.y rfl rfl (.inl rfl) (.ixI k rfl rfl tsl47 rfl bd) ?_
      refine VD.y rfl rfl (.inl rfl) (.fa rfl tst32 rfl) ?_
      refine VD.y rfl rfl (.inl rfl) (.ld1 0 rfl tk3 rfl (hce4.at1 (j := 0) rfl)) ?_
      refine VD.y rfl rfl (.inl rfl) (.neq rfl rfl) ?_
      refine VD.y rfl rfl (.inl rfl) (.mv rfl) ?_
      refine VD.dec (s := 28) rfl (fun hc5 => ?_) (fun hc5 => ?_)
      · -- FTT
        refine VD.gn rfl rfl (.inl ⟨_, rfl, rfl⟩) ?_
        refine VD.gn rfl rfl (.inl ⟨_, rfl, rfl⟩) ?_
        refine VD.gn rfl rfl (.inl ⟨_, rfl, rfl⟩) ?_
        refine VD.gn rfl rfl (.inl ⟨_, rfl, rfl⟩) ?_
        refine VD.gn rfl rfl (.inl ⟨_, rfl, rfl⟩) ?_
        refine VD.gn rfl rfl (.inl ⟨_, rfl, rfl⟩) ?_
        refine VD.gn rfl rfl (.inl ⟨_, rfl, rfl⟩) ?_
        refine VD.gn rfl rfl (.inl ⟨_, rfl, rfl⟩) ?_
        refine VD.gn rfl rfl (.inl ⟨_, rfl, rfl⟩) ?_
        refine VD.gn rfl rfl (.inl ⟨_, rfl, rfl⟩) ?_
        refine VD.gn rfl rfl (.inl ⟨_, rfl, rfl⟩) ?_
        refine VD.y rfl rfl (.inl rfl) (.pT rfl rfl) ?_
        refine VD.y rfl rfl (.inl rfl) (.mv rfl) ?_
        refine VD.gn rfl rfl (.inl ⟨_, rfl, rfl⟩) ?_
        refine VD.gn rfl rfl (.inl ⟨_, rfl, rfl⟩) ?_
        refine VD.gn rfl rfl (.inl ⟨_, rfl, rfl⟩) ?_
        refine VD.gn rfl rfl (.inl ⟨_, rfl, rfl⟩) ?_
        refine VD.gn rfl rfl (.inl ⟨_, rfl, rfl⟩) ?_
        refine VD.gn rfl rfl (.inl ⟨_, rfl, rfl⟩) ?_
        refine VD.gn rfl rfl (.inl ⟨_, rfl, rfl⟩) ?_
        refine VD.gn rfl rfl (.inl ⟨_, rfl, rfl⟩) ?_
        refine VD.gn rfl rfl (.inl ⟨_, rfl, rfl⟩) ?_
        refine VD.gn rfl rfl (.inl ⟨_, rfl, rfl⟩) ?_
        refine VD.nil rfl ?_ rfl
        refine VO.gN ?_
        refine VO.gN ?_
        refine VO.y rfl (.pT rfl rfl) ?_
        refine VO.k6 0 1 5 10 14 54 ?_
        refine outN ?_
        refine VC.condT rfl ?_
        refine VC.rs ?_
        refine VO.as ?_
        refine VO.kp [0] [(0, wm W)] ?_
        refine VO.k7 0 1 4 5 10 14 54 ?_
        refine VC.ret ?_
        refine outBR ?_
        refine outR ?_
        refine outR ?_
        refine outBR ?_
        refine outR ?_
        refine ⟨_, _, res_run (rs := [.tmp 4]) rfl (.tmp rfl .nil), fun W_ hI => out_of (l := []) hI [] rfl rfl (mle_refl _) (fun hS_ => ?_)⟩
        dsimp only [packV]
        all_goals (first | rfl | (simp [get_ne ‹d0[k]? = some _› ‹d1[k]? = some _› (fun e_ => by subst e_; first | exact absurd rfl (by assumption) | (have h_ : ¬ (_ : List DOp) = _ := by assumption; exact h_ rfl))]))
      · -- FTF
        refine VD.y rfl rfl (.inr ⟨_, _, rfl, _, rfl, rfl⟩) (.mv rfl) ?_
        refine VD.y rfl rfl (.inr ⟨_, _, rfl, _, rfl, rfl⟩) (.mv rfl) ?_
        refine VD.y rfl rfl (.inr ⟨_, _, rfl, _, rfl, rfl⟩) (.ixI k rfl rfl tsl47 rfl bd) ?_
        refine VD.y rfl rfl (.inr ⟨_, _, rfl, _, rfl, rfl⟩) (.fa rfl tst32 rfl) ?_
        refine VD.y rfl rfl (.inr ⟨_, _, rfl, _, rfl, rfl⟩) (.ld1 0 rfl tk3 rfl (hce3.at1 (j := 1) rfl)) ?_
        refine VD.y rfl rfl (.inr ⟨_, _, rfl, _, rfl, rfl⟩) (.mv rfl) ?_
        refine VD.y rfl rfl (.inr ⟨_, _, rfl, _, rfl, rfl⟩) (.mv rfl) ?_
        refine VD.y rfl rfl (.inr ⟨_, _, rfl, _, rfl, rfl⟩) (.ixI k rfl rfl tsl47 rfl bd) ?_
        refine VD.y rfl rfl (.inr ⟨_, _, rfl, _, rfl, rfl⟩) (.fa rfl tst32 rfl) ?_
        refine VD.y rfl rfl (.inr ⟨_, _, rfl, _, rfl, rfl⟩) (.ld1 0 rfl tk3 rfl (hce4.at1 (j := 1) rfl)) ?_
        refine VD.y rfl rfl (.inr ⟨_, _, rfl, _, rfl, rfl⟩) (.neq rfl rfl) ?_
        refine VD.y rfl rfl (.inl rfl) (.pF rfl rfl) ?_
        refine VD.y rfl rfl (.inl rfl) (.mv rfl) ?_
        refine VD.dec (s := 41) rfl (fun hc8 => ?_) (fun hc8 => ?_)
        · -- FTFT
          refine VD.gn rfl rfl (.inl ⟨_, rfl, rfl⟩) ?_
          refine VD.gn rfl rfl (.inl ⟨_, rfl, rfl⟩) ?_
          refine VD.gn rfl rfl (.inl ⟨_, rfl, rfl⟩) ?_
          refine VD.gn rfl rfl (.inl ⟨_, rfl, rfl⟩) ?_
          refine VD.gn rfl rfl (.inl ⟨_, rfl, rfl⟩) ?_
          refine VD.gn rfl rfl (.inl ⟨_, rfl, rfl⟩) ?_
          refine VD.gn rfl rfl (.inl ⟨_, rfl, rfl⟩) ?_
          refine VD.gn rfl rfl (.inl ⟨_, rfl, rfl⟩) ?_
          refine VD.gn rfl rfl (.inl ⟨_, rfl, rfl⟩) ?_
          refine VD.gn rfl rfl (.inl ⟨_, rfl, rfl⟩) ?_
          refine VD.nil rfl ?_ rfl
          refine VO.gN ?_
          refine VO.gN ?_
          refine VO.y rfl (.pT rfl rfl) ?_
          refine VO.k6 0 1 5 10 14 54 ?_
          refine outN ?_
          refine VC.condT rfl ?_
          refine VC.rs ?_
          refine VO.as ?_
          refine VO.kp [0] [(0, wm W)] ?_
          refine VO.k7 0 1 4 5 10 14 54 ?_
          refine VC.ret ?_
          refine outBR ?_
          refine outR ?_
          refine outR ?_
          refine outBR ?_
          refine outR ?_
          refine ⟨_, _, res_run (rs := [.tmp 4]) rfl (.tmp rfl .nil), fun W_ hI => out_of (l := []) hI [] rfl rfl (mle_refl _) (fun hS_ => ?_)⟩
          dsimp only [packV]
          all_goals (first | rfl | (simp [get_ne ‹d0[k]? = some _› ‹d1[k]? = some _› (fun e_ => by subst e_; first | exact absurd rfl (by assumption) | (have h_ : ¬ (_ : List DOp) = _ := by assumption; exact h_ rfl))]))
        · -- FTFF
          refine VD.y rfl rfl (.inr ⟨_, _, rfl, _, rfl, rfl⟩) (.mv rfl) ?_
          refine VD.y rfl rfl (.inr ⟨_, _, rfl, _, rfl, rfl⟩) (.mv rfl) ?_
          refine VD.y rfl rfl (.inr ⟨_, _, rfl, _, rfl, rfl⟩) (.ixI k rfl rfl tsl47 rfl bd) ?_
          refine VD.y rfl rfl (.inr ⟨_, _, rfl, _, rfl, rfl⟩) (.fa rfl tst32 rfl) ?_
          refine VD.y rfl rfl (.inr ⟨_, _, rfl, _, rfl, rfl⟩) (.ld1 0 rfl tk30 rfl (hce3.at1 (j := 2) rfl)) ?_
          refine VD.y rfl rfl (.inr ⟨_, _, rfl, _, rfl, rfl⟩) (.mv rfl) ?_
          refine VD.y rfl rfl (.inr ⟨_, _, rfl, _, rfl, rfl⟩) (.mv rfl) ?_
          refine VD.y rfl rfl (.inr ⟨_, _, rfl, _, rfl, rfl⟩) (.ixI k rfl rfl tsl47 rfl bd) ?_
          refine VD.y rfl rfl (.inr ⟨_, _, rfl, _, rfl, rfl⟩) (.fa rfl tst32 rfl) ?_
          refine VD.y rfl rfl (.inr ⟨_, _, rfl, _, rfl, rfl⟩) (.ld1 0 rfl tk30 rfl (hce4.at1 (j := 2) rfl)) ?_
          refine VD.nil rfl ?_ rfl
          refine VO.gcallN 111 rfl ⟨_, rfl, rfl⟩ fnOk62 rfl (fun W hW => SameOps_ok W (Rd.mono q3_2 (hW.at (i := 0) rfl)) (Rd.mono q4_2 (hW.at (i := 0) rfl))) (fun v11 m11 hv11 => ?_)
          subst hv11
          refine VO.gy rfl ⟨_, rfl, rfl⟩ (.notD rfl) ?_
          refine VO.y rfl (.pF rfl rfl) ?_
          refine VO.k6 0 1 5 10 14 54 ?_
          refine outN ?_
          refine VC.cond rfl (fun hc12 => ?_) (fun hc12 => ?_)
          · -- FTFFT
            refine VC.rs ?_
            refine VO.as ?_
            refine VO.kp [0] [(0, wm W)] ?_
            refine VO.k7 0 1 4 5 10 14 54 ?_
            refine VC.ret ?_
            refine outBR ?_
            refine outR ?_
            refine outR ?_
            refine outBR ?_
            refine outR ?_
            refine ⟨_, _, res_run (rs := [.tmp 4]) rfl (.tmp rfl .nil), fun W_ hI => out_of (l := []) hI [] rfl rfl (mle_refl _) (fun hS_ => ?_)⟩
            dsimp only [packV]
            all_goals (first | rfl | (simp [get_ne ‹d0[k]? = some _› ‹d1[k]? = some _› (fun e_ => by subst e_; first | exact absurd rfl (by assumption) | (have h_ : ¬ (_ : List DOp) = _ := by assumption; exact h_ rfl))]))
          · -- FTFFF
            refine VC.skip ?_
            refine outBN ?_
            refine outN ?_
            refine VC.reg ?_
            refine VO.mv ?_
            refine VO.y rfl (.add (c := ((k + 1 : Nat) : Int)) rfl rfl (by omega) ⟨bd, bd⟩) ?_
            refine VO.as ?_
            refine VO.kp [0] [(0, wm W)] ?_
            refine VO.k6 0 1 5 10 14 54 ?_
            exact outN ⟨k + 1, ⟨by omega, by exact take_next ht ‹d0[k]? = some _› ‹d1[k]? = some _› (run_ext (by omega) (by omega) (by first | assumption | exact Decidable.not_not.1 (by assumption)))⟩, bd, ⟨⟨rfl, rfl, rfl, rfl, trivial⟩, fun _ h => Inv.sub h [0]⟩⟩
    · -- FF
      refine VC.exit ?_
      refine outE ?_
      refine outE ?_
      refine outBB ?_
      refine outN ?_
      refine VC.rs ?_
      refine VO.as ?_
      refine VO.k6 0 1 4 5 10 14 ?_
      refine VC.ret ?_
      refine ⟨_, _, res_run (rs := [.tmp 4]) rfl (.tmp rfl .nil), fun W_ hI => out_of (l := []) hI [] rfl rfl (mle_refl _) (fun hS_ => ?_)⟩
      dsimp only [packV]
      all_goals (first | rfl | (simp [take_all ht (by omega) (by omega)]))
theorem fnOk31 : fnOk Try.prog 31 = true := by kernel_rfl
theorem fnOk33 : fnOk Try.prog 33 = true := by kernel_rfl
theorem fnOk34 : fnOk Try.prog 34 = true := by kernel_rfl
theorem fnOk23 : fnOk Try.prog 23 = true := by kernel_rfl
theorem fnOk8 : fnOk Try.prog 8 = true := by kernel_rfl
abbrev MapD := List (List UInt8 × List UInt8 × Bool)
/-- what stands under a key -/
def mGet (l : MapD) (k : List UInt8) : Option (List UInt8 × Bool) := (l.find? fun x => decide (x.1 = k)).map (·.2)
/-- a key's entry is turned, or a new one put behind -/
def mPut : MapD → List UInt8 → List UInt8 × Bool → MapD
  | [], k, v => [(k, v)]
  | x :: l, k, v => if x.1 = k then (k, v) :: l else x :: mPut l k v
theorem find_now {k : List UInt8} : ∀ {es : List MapEntry} {xs : MapD} (i : Nat), es.map (fun e => (e.key, e.val)) = xs.map entV →
    (mGet xs k = none ∧ Instr.findNow .string (str k) es i = some none ∧ mPut xs k = fun v => xs ++ [(k, v)]) ∨
    (∃ j v, mGet xs k = some v ∧ j < es.length ∧ Instr.findNow .string (str k) es i = some (some (i + j, .agg [str v.1, .bool v.2].toArray)) ∧ (es[j]?.map (·.key)) = some (str k) ∧
      ∀ w, mPut xs k w = xs.set j (k, w))
  | [], [], i, _ => .inl ⟨rfl, rfl, rfl⟩
  | [], _ :: _, i, h => by simp at h
  | _ :: _, [], i, h => by simp at h
  | e :: es, x :: xs, i, h => by
    simp only [List.map_cons, List.cons.injEq] at h
    obtain ⟨h1, h2⟩ := h
    obtain ⟨hk, hv⟩ := Prod.mk.inj (show (e.key, e.val) = (str x.1, .agg [str x.2.1, .bool x.2.2].toArray) from h1)
    have hs : Instr.sameNow .string (str k) e.key = some (decide (k = x.1)) := by
      rw [hk]; show some (_ == _) = _; rw [ba_beq]
    by_cases he : x.1 = k
    · right
      refine ⟨0, x.2, ?_, by simp, ?_, ?_, fun w => ?_⟩
      · simp [mGet, he]
      · show (match Instr.sameNow .string (str k) e.key with | some true => _ | some false => _ | none => _) = _
        rw [hs, decide_eq_true he.symm]; dsimp only; rw [hv]; rfl
      · simp [hk, he]
      · rw [mPut, if_pos he]; rfl
    · have hf : Instr.findNow .string (str k) (e :: es) i = Instr.findNow .string (str k) es (i + 1) := by
        show (match Instr.sameNow .string (str k) e.key with | some true => _ | some false => _ | none => _) = _
        rw [hs, decide_eq_false (fun q => he q.symm)]
      have hg : mGet (x :: xs) k = mGet xs k := by simp [mGet, List.find?_cons, he]
      rcases find_now (k := k) (i + 1) h2 with ⟨a, b, c⟩ | ⟨j, v, a, b, c, d, f⟩
      · left
        refine ⟨hg.trans a, hf.trans b, ?_⟩
        funext v; rw [mPut, if_neg he, c]; rfl
      · right
        refine ⟨j + 1, v, hg.trans a, by simp; omega, by rw [hf, c]; simp only [Option.some.injEq, Prod.mk.injEq, and_true]; omega, by simpa using d, fun w => ?_⟩
        rw [mPut, if_neg he, f]; rfl
theorem mapRd_push {es : Array MapEntry} {xs : MapD} {k : List UInt8} {v : List UInt8 × Bool} {ck : Nat} (h : mapRd es xs) (hk : k.length ≤ maxLen) (hv : v.1.length ≤ maxLen) :
    mapRd (es.push { key := str k, val := .agg [str v.1, .bool v.2].toArray, born := ck }) (xs ++ [(k, v)]) := by
  refine ⟨by simp only [Array.toList_push, List.map_append, h.1, List.map_cons, List.map_nil]; rfl, fun x hx => ?_⟩
  rcases List.mem_append.1 hx with hx | hx
  · exact h.2 x hx
  · rw [List.mem_singleton.1 hx]; exact ⟨hk, hv⟩
theorem mapRd_set {es : Array MapEntry} {xs : MapD} {k : List UInt8} {v : List UInt8 × Bool} {j : Nat} (h : mapRd es xs) (hk : k.length ≤ maxLen) (hv : v.1.length ≤ maxLen) :
    mapRd (es.modify j fun e => { e with key := str k, val := .agg [str v.1, .bool v.2].toArray }) (xs.set j (k, v)) := by
  refine ⟨?_, fun x hx => ?_⟩
  · rw [Array.toList_modify]
    have hl := congrArg List.length h.1
    simp only [List.length_map] at hl
    refine List.ext_getElem? fun i => ?_
    have := congrArg (fun l => l[i]?) h.1
    simp only [List.getElem?_map] at this
    simp only [List.getElem?_map, List.getElem?_modify, List.getElem?_set]
    by_cases hij : j = i
    · subst hij
      simp only [if_true, ite_true]
      cases he : es.toList[j]? with
      | none =>
        have : ¬ j < xs.length := by have := List.getElem?_eq_none_iff.1 he; omega
        simp [this]
      | some e =>
        have : j < xs.length := by have := (List.getElem?_eq_some_iff.1 he).1; omega
        simp [this, entV]
    · simp only [if_neg hij]; simpa using this
  · rcases List.mem_or_eq_of_mem_set hx with hx | rfl
    · exact h.2 x hx
    · exact ⟨hk, hv⟩
section
variable {P : Program} {n : Nat} {w0 : World} {σ : Env} {Ω : Ctx} {ops : Array Oper} {K : Env → Ctx → Prop} {ty : TypeId} {pos : String} {af : Array Edge} {d : Option Tmp} {gd : Option (Nat × Bool)} {r : List Oper}
theorem Ow.map1 {m : Mem} {cs : List Value} {xs : MapD} (h : Ow .tmap m cs xs) : ∃ g, cs = [.map (some g)] := ⟨h.choose, h.choose_spec.choose_spec.choose_spec.1⟩
theorem Rd.map1 {m : Mem} {cs : List Value} {xs : MapD} (h : Rd .tmap m cs xs) : ∃ g, cs = [.map (some g)] := ⟨h.choose, h.choose_spec.choose_spec.choose_spec.1⟩
def zv (P : Program) (t : TypeId) : Option Value := (P.info? t).bind fun i => i.zero
theorem zv_run {P : Program} {t : TypeId} {v : Value} (h : zv P t = some v) : ∀ w, (zeroValue t).run P w = .ok v w := fun w => by
  unfold zv at h
  cases hi : P.info? t with
  | none => rw [hi] at h; cases h
  | some i => rw [hi] at h; simp only [Option.bind_some] at h; simp [zeroValue, typeInfo, program, Sem.run, hi, h]
theorem Stp.mkmap {t : TypeId} (i : Nat) : Stp P n w0 σ Ω ⟨d, .makeMap t none, ty, pos, af, gd⟩ (fun u Ω' => ∃ g, u = .map (some g) ∧ Ω' = (i, mone g (.map #[] 0)) :: Ω) := fun a W he hi K Q hK => by
  unfold Oper.wp
  have : (execOp a.eval ⟨d, .makeMap t none, ty, pos, af, gd⟩).run P W = .ok (.value (.map (some W.heap.size))) (W.alloc (.map #[] 0)) := by
    simp [execOp, Instr.makeMap]
  rw [this]
  exact hK _ _ _ ⟨_, rfl, rfl⟩ (hi.alloc i _)
theorem VO.mkmap {dd : Nat} {t : TypeId} (i : Nat) (hd : Nat.blt dd n = true) (h : ∀ g m, Ow .tmap m [.map (some g)] [] → VO P n w0 ops r ((dd, .map (some g)) :: σ) ((i, m) :: Ω) K) : VO P n w0 ops (⟨some dd, .makeMap t none, ty, pos, af, none⟩ :: r) σ Ω K :=
  VO.s hd (Stp.mkmap i) fun _ _ ⟨g, hv, hΩ⟩ => by rw [hv, hΩ]; exact h g _ ⟨g, #[], 0, rfl, mle_refl _, rfl, fun x hx => by cases hx⟩
theorem run_equalIn_mnil (W : World) (k : Nat) {t e f : TypeId} (g : Option Nat) (ht : P.underlying t = some (.map e f)) : (Op.equalIn (k + 1) t (.map g) (.map none)).run P W = .ok (decide (g = none)) W := by
  unfold Op.equalIn
  rw [Sem.run_bind, run_underlying' ht]
  cases g <;> rfl
theorem Yld.mnil {x y : Operand} {t u e f : TypeId} {g : Option Nat} (hx : ev σ x = some (.map g)) (hy : ev σ y = some (.map none)) (ht : P.underlying t = some (.map e f)) :
    Yld P n w0 σ Ω ⟨d, .binOp .eql t x y u, ty, pos, af, gd⟩ (.bool (decide (g = none))) := fun a W he _ => by
  have h2 : (binOp .eql t (.map g) (.map none)).run P W = .ok (.bool (decide (g = none))) W := by
    have h3 : binOp .eql t (.map g) (.map none) = (do pure (.bool (← Op.equal t (.map g) (.map none)))) := by
      cases g <;> rfl
    rw [h3, Sem.run_bind]
    unfold Op.equal
    rw [show Op.maxDepth = 9999 + 1 from rfl, run_equalIn_mnil W 9999 g ht]
    rfl
  have h4 : (eqGuard .eql t x y (.map g) (.map none)).run P W = .ok () W := by
    unfold eqGuard; simp
  simp [execOp, he.eval hx, he.eval hy, h2, h4]
theorem run_ck (W : World) (b : Bool) {kt : TypeId} (k : List UInt8) (hkt : P.underlying kt = some .string) : (Instr.checkKey b 10000 kt (str k)).run P W = .ok () W := by
  rw [show (10000 : Nat) = 9999 + 1 from rfl]
  unfold Instr.checkKey
  rw [Sem.run_bind, run_underlying' hkt]; rfl
theorem run_fk (W : World) {kt : TypeId} (k : List UInt8) {es : List MapEntry} {q : Option (Nat × Value)} (hkt : P.underlying kt = some .string) (h : Instr.findNow .string (str k) es 0 = some q) : (Instr.findKey kt (str k) es).run P W = .ok q W := by
  unfold Instr.findKey
  rw [Sem.run_bind, run_underlying' hkt]
  show Sem.run P (match Instr.findNow .string (str k) es 0 with | some r => pure r | none => _) W = _
  rw [h]; rfl
theorem Stp.mupd {t kt et : TypeId} {x k y : Operand} {g : Nat} {ks : List UInt8} {v : List UInt8 × Bool} {xs : MapD} (i : Nat) {m : Mem} (hx : ev σ x = some (.map (some g))) (hk : ev σ k = some (str ks)) (hy : ev σ y = some (.agg [str v.1, .bool v.2].toArray))
    (ht : P.underlying t = some (.map kt et)) (hkt : P.underlying kt = some .string) (hm : cget Ω i = some m) (hown : Ow .tmap m [.map (some g)] xs) (hkl : ks.length ≤ maxLen) (hvl : v.1.length ≤ maxLen) :
    Stp P n w0 σ Ω ⟨d, .mapUpdate t x k y, ty, pos, af, gd⟩ (fun u Ω' => u = undef ∧ ∃ m', Ω' = cset Ω i m' ∧ Ow .tmap m' [.map (some g)] (mPut xs ks v)) := fun a W he hi K' Q hK => by
  obtain ⟨g', es, ck, e1, h2, h3⟩ := hown
  simp only [List.cons.injEq, Value.map.injEq, Option.some.injEq, and_true] at e1
  subst e1
  have hwm : W.heap[g]? = some (.map es ck) := hi.at hm g _ (h2 _ _ (mone_self _ _))
  obtain ⟨o, ho, hrd⟩ : ∃ o, (execOp a.eval ⟨d, .mapUpdate t x k y, ty, pos, af, gd⟩).run P W = .ok .skip { W with heap := W.heap.setIfInBounds g o } ∧ ∃ es' ck', o = .map es' ck' ∧ mapRd es' (mPut xs ks v) := by
    rcases find_now (k := ks) 0 h3.1 with ⟨_, b, c⟩ | ⟨j, w, _, b, c, dd, f⟩
    · refine ⟨.map (es.push { key := str ks, val := .agg [str v.1, .bool v.2].toArray, born := ck }) (ck + 1), ?_, _, _, rfl, by rw [c]; exact mapRd_push h3 hkl hvl⟩
      simp [execOp, Instr.mapUpdate, he.eval hx, he.eval hk, he.eval hy, run_underlying' ht, run_underlying' hkt, getObj, setObj, Sem.run, hwm, run_ck _ _ _ hkt, run_fk _ _ hkt b]
    · refine ⟨.map (es.modify j fun e => { e with key := str ks, val := .agg [str v.1, .bool v.2].toArray }) ck, ?_, _, _, rfl, by rw [f]; exact mapRd_set h3 hkl hvl⟩
      have hb : Instr.keyThatStays (str ks) (str ks) = pure (str ks) := by
        unfold Instr.keyThatStays; rw [if_pos (by show ((⟨ks.toArray⟩ : ByteArray) == ⟨ks.toArray⟩) = true; rw [ba_beq]; simp)]
      try simp only [Array.getElem?_toList] at dd
      simp [execOp, Instr.mapUpdate, he.eval hx, he.eval hk, he.eval hy, run_underlying' ht, run_underlying' hkt, getObj, setObj, Sem.run, hwm, run_ck _ _ _ hkt, run_fk _ _ hkt c, dd, hb]
  obtain ⟨es', ck', rfl, hr⟩ := hrd
  unfold Oper.wp
  rw [ho]
  have hlt : g < W.heap.size := (Array.getElem?_eq_some_iff.1 hwm).1
  have hgg : ({ W with heap := W.heap.setIfInBounds g (.map es' ck') } : World).heap[g]? = some (.map es' ck') := by simp [Array.getElem?_setIfInBounds, hlt]
  have hfar : ∀ q, q ≠ g → ({ W with heap := W.heap.setIfInBounds g (.map es' ck') } : World).heap[q]? = W.heap[q]? := fun q hq => by simp [Array.getElem?_setIfInBounds, Ne.symm hq]
  have hmg : m g = some (.map es ck) := h2 _ _ (mone_self _ _)
  refine hK undef _ _ ⟨rfl, mset m g (.map es' ck'), rfl, g, es', ck', rfl, fun q o hq => ?_, hr⟩ (hi.set hm rfl rfl rfl (by simp) (fun q o h => ?_) (fun q o h => ?_) (fun q => ?_))
  · unfold mone at hq; unfold mset
    split at hq
    · rename_i hqg; rw [if_pos hqg]; exact hq
    · cases hq
  · unfold mout at h
    split at h
    · cases h
    · rename_i hn
      have hkg : q ≠ g := by rintro rfl; rw [hmg] at hn; cases hn
      unfold wm at h ⊢
      rw [hfar q hkg]; exact h
  · unfold mset at h
    split at h
    · rename_i hqg; subst hqg; unfold wm; rw [hgg]; exact h
    · rename_i hqg; unfold wm; rw [hfar q hqg]; exact hi.at hm q o h
  · by_cases hqg : q = g
    · subst hqg; right; left; rw [hmg]; simp
    · cases hmk : m q with
      | none => left; simp [mset, hqg, hmk]
      | some o => right; left; simp
theorem VO.mupd {t kt et : TypeId} {x k y : Operand} {g : Nat} {ks : List UInt8} {v : List UInt8 × Bool} {xs : MapD} (i : Nat) {m : Mem} (hx : ev σ x = some (.map (some g))) (hk : ev σ k = some (str ks)) (hy : ev σ y = some (.agg [str v.1, .bool v.2].toArray))
    (ht : P.underlying t = some (.map kt et)) (hkt : P.underlying kt = some .string) (hm : cget Ω i = some m) (hown : Ow .tmap m [.map (some g)] xs) (hkl : ks.length ≤ maxLen) (hvl : v.1.length ≤ maxLen)
    (h : ∀ m', Ow .tmap m' [.map (some g)] (mPut xs ks v) → VO P n w0 ops r σ (cset Ω i m') K) : VO P n w0 ops (⟨none, .mapUpdate t x k y, ty, pos, af, none⟩ :: r) σ Ω K :=
  VO.u (Stp.mupd i hx hk hy ht hkt hm hown hkl hvl) fun _ _ ⟨_, m', hΩ, ho⟩ => hΩ ▸ h m' ho
theorem Yld.mlook {t kt et : TypeId} {x k : Operand} {g : Nat} {ks : List UInt8} {xs : MapD} (i : Nat) {m : Mem} (hx : ev σ x = some (.map (some g))) (hk : ev σ k = some (str ks)) (ht : P.underlying t = some (.map kt et)) (hkt : P.underlying kt = some .string)
    (hz : ∀ w, (zeroValue et).run P w = .ok (.agg [str [], .bool false].toArray) w) (hm : cget Ω i = some m) (hown : Rd .tmap m [.map (some g)] xs) :
    Yld P n w0 σ Ω ⟨d, .lookup t x k true, ty, pos, af, gd⟩ (.tuple #[.agg [str ((mGet xs ks).getD ([], false)).1, .bool ((mGet xs ks).getD ([], false)).2].toArray, .bool (mGet xs ks).isSome]) := fun a W he hi => by
  obtain ⟨g', es, ck, e1, h2, h3⟩ := hown
  simp only [List.cons.injEq, Value.map.injEq, Option.some.injEq, and_true] at e1
  subst e1
  have hwm : W.heap[g]? = some (.map es ck) := hi.at hm g _ h2
  rcases find_now (k := ks) 0 h3.1 with ⟨q, b, c⟩ | ⟨j, w, q, b, c, dd, f⟩
  · rw [q]; simp [execOp, Instr.lookup, he.eval hx, he.eval hk, run_underlying' ht, run_underlying' hkt, getObj, Sem.run, hwm, run_ck _ _ _ hkt, run_fk _ _ hkt b, hz]
  · rw [q]; simp [execOp, Instr.lookup, he.eval hx, he.eval hk, run_underlying' ht, run_underlying' hkt, getObj, Sem.run, hwm, run_ck _ _ _ hkt, run_fk _ _ hkt c]
end
abbrev TtableTable : Ty := .tmap
abbrev DtableTable := MapD
theorem openO_tableTable {m : Mem} {cs : List Value} {x0 : MapD} (h : Ow TtableTable m cs x0) : ∃ (r0 : Nat), ∃ (n0 : Mem), cs = [(.map (some r0) : Value)] ∧ Seps m [n0] ∧ Ow .tmap n0 [.map (some r0)] x0 := by
  have z1 := h
  obtain ⟨r1, rfl⟩ := Ow.map1 h
  exact ⟨r1, _, rfl, Seps.one (mle_refl _), z1⟩
theorem mkO_tableTable {m : Mem} {n0 : Mem} (x0 : MapD) (hS : Seps m [n0]) {v0 : Value} (h0 : Ow .tmap n0 [v0] x0) : Ow TtableTable m [v0] x0 := by
  exact (h0.up (hS.1 _ (.head _)))
theorem openP_tableTable {m : Mem} {cs : List Value} {g : Nat} {x0 : MapD} (h : Ow (.ptr TtableTable) m cs (g, x0)) : ∃ (E : TypeId), ∃ (r0 : Nat), ∃ (n0 : Mem), cs = [.pointer (some ⟨g, 0, none⟩)] ∧ Seps m [mone g (.cells [(.map (some r0) : Value)].toArray E (0, 0)), n0] ∧ Ow .tmap n0 [.map (some r0)] x0 := by
  obtain ⟨rfl, rc, E, m1, hd, l0, l1, h1⟩ := Ow.opnP h
  obtain ⟨r0, n0, rfl, hS, f0⟩ := openO_tableTable h1
  exact ⟨E, r0, n0, rfl, Seps.app hd l0 l1 (Seps.one (mle_refl _)) hS, f0⟩
theorem mkP_tableTable {m : Mem} {g : Nat} {E : TypeId} {n0 : Mem}{v0 : Value} (x0 : MapD) (hS : Seps m [mone g (.cells [v0].toArray E (0, 0)), n0]) (h0 : Ow .tmap n0 [v0] x0) : Ow (.ptr TtableTable) m [.pointer (some ⟨g, 0, none⟩)] (g, x0) :=
  Ow.clsP hS fun hS => mkO_tableTable x0 hS h0
def mPutO (t : MapD) (o : DOp) : MapD := mPut t o.2.1 (o.2.2, o.1)
def mApply (t : MapD) (l : List DOp) : MapD × Int := if ∀ o ∈ l, opCheck o = 0 then (l.foldl mPutO t, 0) else (t, 2)
section
variable {t : MapD} {l : List DOp} {x : DOp} {k : Nat}
theorem mfold_next (hx : l[k]? = some x) : (l.take (k + 1)).foldl mPutO t = mPut ((l.take k).foldl mPutO t) x.2.1 (x.2.2, x.1) := by rw [take_one hx, List.foldl_append]; rfl
theorem mApply_bad (hx : l[k]? = some x) (hc : ¬ opCheck x = 0) : mApply t l = (t, 2) := if_neg fun q => hc (q x (List.mem_of_getElem? hx))
theorem mApply_good (hc : ∀ o ∈ l, opCheck o = 0) : mApply t l = (l.foldl mPutO t, 0) := if_pos hc
theorem get_put (t : MapD) (k q : List UInt8) (v : List UInt8 × Bool) : mGet (mPut t k v) q = if k = q then some v else mGet t q := by
  induction t with
  | nil => by_cases h : k = q <;> simp [mPut, mGet, h]
  | cons x t ih =>
    rw [mPut]
    by_cases hx : x.1 = k
    · rw [if_pos hx]
      by_cases h : k = q
      · simp [mGet, h]
      · have : ¬ x.1 = q := by rw [hx]; exact h
        simp [mGet, h, this]
    · rw [if_neg hx]
      by_cases hq : x.1 = q
      · have : ¬ k = q := fun e => hx (hq.trans e.symm)
        simp [mGet, hq, this]
      · have e1 : mGet (x :: mPut t k v) q = mGet (mPut t k v) q := by simp [mGet, List.find?_cons, hq]
        have e2 : mGet (x :: t) q = mGet t q := by simp [mGet, List.find?_cons, hq]
        rw [e1, e2, ih]
end
def opPair (o : DOp) : List UInt8 × Bool := (o.2.2, o.1)
def tabOk (t : MapD) (u : List DRun) : Prop := ∀ q, mGet t q = (getRev u.reverse q).map opPair
section
variable {t : MapD} {u : List DRun} {l y : List DOp} {q : Bytes} {d : DDisk} {br : Bool} {i : Nat} {x : DRun}
theorem mfold_get : ∀ {l : List DOp} {t : MapD}, opsUp l → mGet (l.foldl mPutO t) q = (match findK l q with | some o => some (opPair o) | none => mGet t q)
  | [], t, _ => rfl
  | x :: l, t, h => by
    rw [List.foldl_cons, mfold_get (ups_tail h)]
    have hg := get_put t x.2.1 q (x.2.2, x.1)
    by_cases hx : x.2.1 = q
    · have e1 : findK (x :: l) q = some x := by unfold findK; simp [List.find?_cons, hx]
      have e2 : findK l q = none := by
        unfold findK
        refine List.find?_eq_none.2 fun y hy => ?_
        have := (List.pairwise_cons.1 h.2).1 y hy
        simp only [decide_eq_true_eq]
        intro e; rw [hx, e] at this; exact kl_irrefl _ this
      rw [e1, e2]; dsimp only
      rw [show mPutO t x = mPut t x.2.1 (x.2.2, x.1) from rfl, hg, if_pos hx]; rfl
    · have e1 : findK (x :: l) q = findK l q := by unfold findK; simp [List.find?_cons, hx]
      rw [e1, show mPutO t x = mPut t x.2.1 (x.2.2, x.1) from rfl, hg, if_neg hx]
theorem tab_nil : tabOk [] [] := fun q => rfl
theorem tab_step (h : tabOk t u) (hx : opsUp x.2.2) : tabOk (x.2.2.foldl mPutO t) (u ++ [x]) := fun q => by
  rw [mfold_get hx, List.reverse_append]
  show _ = Option.map opPair (match findK x.2.2 q with | some o => some o | none => getRev u.reverse q)
  cases findK x.2.2 q with
  | some o => rfl
  | none => exact h q
theorem tab_ans (h : tabOk t u) (q : Bytes) : getR u q = (((mGet t q).getD ([], false)).1, (mGet t q).isSome, ((mGet t q).getD ([], false)).2) := by
  rw [h q]; unfold getR
  cases getRev u.reverse q <;> rfl
/-- no fuse; all is flushed -/
def Kz (d : DDisk) (u : List DRun) : Prop := Onn d ∧ Ku d u
theorem kz_new : Kz newD [] := ⟨⟨okD_new, rfl, rfl, rfl⟩, ku_new⟩
theorem kz_flush (h : Kz d u) (hc : runCheck x = 0) (hx : x.1 = endR u + 1) : (uFlush d false u x).2 = 0 ∧ Kz (uFlush d false u x).1.1 (u ++ [x]) ∧ (uFlush d false u x).1.2 = (false, u ++ [x]) := by
  obtain ⟨w1, w2, _⟩ := on_write (f := 2) (b := rFrame x) h.1 (by decide)
  obtain ⟨s1, s2, _⟩ := on_sync w2
  have e : uFlush d false u x = (((dSync (dWrite d 2 (rFrame x)).1).1, false, u ++ [x]), 0) := by
    unfold uFlush
    rw [if_neg (fun q => q.elim (by decide) (· (ku_on h.2))), if_neg (not_not_intro hc), if_neg (not_not_intro hx), if_neg (not_not_intro w1), if_neg (not_not_intro s1)]
  rcases ku_flush h.2 hc hx with ⟨a, b, c⟩ | ⟨a, _⟩
  · exact ⟨a, ⟨by rw [e]; exact s2, b⟩, c⟩
  · rw [e] at a; cases a
theorem rt_x (hl : (u.length : Int) = i ∧ endR u = i) (hi : i < 1000000) (hy : y.length ≤ 40) : runCheck (endR u + 1, endR u + 1, sortedOf y) = 0 := by
  have h := sorted_up y
  exact runCheck_good (by dsimp only; omega) (by dsimp only; omega) h.1
theorem rt_round (hz : Kz d u) (hb : br = false) (hl : (u.length : Int) = i ∧ endR u = i) (hT : tabOk t u) (hi : i < 1000000) (hy : y.length ≤ 40) :
    (runEncode (endR u + 1, endR u + 1, sortedOf y)).2 = 0 ∧ runDecode (runEncode (endR u + 1, endR u + 1, sortedOf y)).1 = ((endR u + 1, endR u + 1, sortedOf y), 0) ∧
    (uFlush d br u (endR u + 1, endR u + 1, sortedOf y)).2 = 0 ∧ Kz (uFlush d br u (endR u + 1, endR u + 1, sortedOf y)).1.1 (uFlush d br u (endR u + 1, endR u + 1, sortedOf y)).1.2.2 ∧ (uFlush d br u (endR u + 1, endR u + 1, sortedOf y)).1.2.1 = false ∧
    ((((uFlush d br u (endR u + 1, endR u + 1, sortedOf y)).1.2.2).length : Int) = ((i + 1 : Nat) : Int) ∧ endR (uFlush d br u (endR u + 1, endR u + 1, sortedOf y)).1.2.2 = ((i + 1 : Nat) : Int)) ∧
    (mApply t (sortedOf y)).2 = 0 ∧ tabOk (mApply t (sortedOf y)).1 (uFlush d br u (endR u + 1, endR u + 1, sortedOf y)).1.2.2 := by
  subst hb
  have hx := rt_x hl hi hy
  have hu := (sorted_up y).1
  obtain ⟨f1, f2, f3⟩ := kz_flush hz hx rfl
  have he : runEncode (endR u + 1, endR u + 1, sortedOf y) = (runBody (endR u + 1, endR u + 1, sortedOf y), 0) := if_pos hx
  have hm : mApply t (sortedOf y) = ((sortedOf y).foldl mPutO t, 0) := mApply_good hu.1
  rw [f3]
  refine ⟨by rw [he], by rw [he]; exact runDec_there hx, f1, f2, rfl, ⟨?_, ?_⟩, by rw [hm], ?_⟩
  · dsimp only; rw [List.length_append, List.length_singleton]; omega
  · dsimp only; rw [endR_snoc]; dsimp only; omega
  · rw [hm]; exact tab_step (x := (endR u + 1, endR u + 1, sortedOf y)) hT hu
theorem kr_same (h : Kr d u u) : (runF (dRead d 2).1).1 = u := by
  rcases kr_two h (by omega) with h | h <;> exact h
end
theorem fnOk72 : fnOk Try.prog 72 = true := by kernel_rfl
theorem tk109 : tk Try.prog 109 = some none := by kernel_rfl
theorem tk113 : tk Try.prog 113 = some (some 2) := by kernel_rfl
theorem tst111 : tst Try.prog 111 = some [(0, 1)] := by kernel_rfl
theorem tst113 : tst Try.prog 113 = some [(0, 1), (1, 1)] := by kernel_rfl
theorem tz111 : tz Try.prog 111 = some [.map none] := by kernel_rfl
theorem tz113 : tz Try.prog 113 = some [.string ⟨#[]⟩, .bool false] := by kernel_rfl
theorem tNew_ok (W : World) : CallR Try.prog 35 [] W (mnil) (fun v m' => ∃ (s0 : Nat), v = .pointer (some ⟨s0, 0, none⟩) ∧ Ow (.ptr TtableTable) m' [.pointer (some ⟨s0, 0, none⟩)] (s0, ([] : MapD))) := by
  refine CallR.ofA (n := 4) Try.func35 rfl rfl rfl ?_
  refine VC.rs ?_
  refine VO.as ?_
  refine VO.k1 0 ?_
  refine VC.rs ?_
  refine VO.mkmap 101 rfl (fun gm1 mm1 hm1 => ?_)
  refine VO.y rfl (.bst (cs := [Value.map (some gm1)]) rfl tst111 tz111 rfl) ?_
  refine VO.box (cs := [Value.map (some gm1)]) 103 rfl rfl rfl (fun g2 => ?_)
  refine VO.as ?_
  refine VO.k1 0 ?_
  refine VC.ret ?_
  refine ⟨_, _, res_run (rs := [.tmp 0]) rfl (.tmp rfl .nil), fun W_ hI => out_of (l := [mone g2 (.cells [Value.map (some gm1)].toArray 111 (0, 0)), mm1]) hI [103, 101] rfl rfl (mle_refl _) (fun hS_ => ?_)⟩
  dsimp only [packV]
  have he0 : (([] : MapD) : DtableTable) = [] := by first | rfl | (simp [*]; done)
  refine ⟨g2, ?_, ?_⟩
  rotate_left
  · rw [he0]; exact (mkP_tableTable [] hS_ hm1)
  all_goals (first | rfl | (simp [*]; done))
theorem tNone_ok (W : World) {m0 : Mem} (hm : mle (m0) (wm W)) {g0 : Nat} {d0 : DtableTable} (h0 : Ow (.ptr TtableTable) m0 [.pointer (some ⟨g0, 0, none⟩)] (g0, d0)) : CallR Try.prog 72 [.pointer (some ⟨g0, 0, none⟩)] W (m0) (fun v m' => v = .bool (decide (False)) ∧ Ow (.ptr TtableTable) m' [.pointer (some ⟨g0, 0, none⟩)] (g0, d0)) := by
  refine CallR.ofB (n := 12) hm Try.func72 rfl rfl rfl ?_
  refine VC.rs ?_
  refine VO.as ?_
  refine VO.k2 0 2 ?_
  refine VC.rs ?_
  refine VO.mv ?_
  refine VO.y rfl (.pnil rfl rfl Try.underlying69 rfl) ?_
  refine VO.mv ?_
  refine VO.gy rfl ⟨_, rfl, rfl⟩ (.mv rfl) ?_
  refine VO.gy rfl ⟨_, rfl, rfl⟩ (.nilp rfl) ?_
  refine VO.gy rfl ⟨_, rfl, rfl⟩ (.fa rfl tst111 rfl) ?_
  obtain ⟨q1_E, q1_r0, q1_n0, _, q1_S, q1_0⟩ := openP_tableTable (x0 := d0) h0
  refine VO.inv _ (fun _ h => h.parts (i := 1) rfl q1_S [103, 102]) ?_
  refine VO.gy rfl ⟨_, rfl, rfl⟩ (.ld1 103 rfl tk109 rfl (cellsAt_one rfl rfl)) ?_
  refine VO.gy rfl ⟨_, rfl, rfl⟩ (.mnil rfl rfl Try.underlying109) ?_
  refine VO.y rfl (.pF rfl rfl) ?_
  refine VO.as ?_
  refine VO.clsP 104 [103, 102] rfl (fun hg4 => (mkP_tableTable d0 hg4 q1_0)) (fun mc4 ho4 => ?_)
  refine VO.k2 0 2 ?_
  refine VC.ret ?_
  refine ⟨_, _, res_run (rs := [.tmp 2]) rfl (.tmp rfl .nil), fun W_ hI => out_of (l := [mc4]) hI [104] rfl rfl (mle_refl _) (fun hS_ => ?_)⟩
  dsimp only [packV]
  have hm0_ : (d0 : DtableTable) = d0 := by first | rfl | (simp [*]; done)
  refine ⟨?_, ?_⟩
  rotate_left
  · rw [hm0_]; exact (Ow.up ho4 (hS_.1 _ (.head _)))
  all_goals (first | rfl | (rfl))
theorem tApply_ok (W : World) {m0 : Mem} (hm : mle (m0) (wm W)) {g0 : Nat} {d0 : DtableTable} (h0 : Ow (.ptr TtableTable) m0 [.pointer (some ⟨g0, 0, none⟩)] (g0, d0)) {v1 : Value} {d1 : List DOp} (h1 : Rd (.sl TOp) (mout (wm W) (m0)) [v1] d1) : CallR Try.prog 36 [.pointer (some ⟨g0, 0, none⟩), v1] W (m0) (fun v m' => v = .int .i64 ((mApply d0 d1).2) ∧ Ow (.ptr TtableTable) m' [.pointer (some ⟨g0, 0, none⟩)] (g0, (mApply d0 d1).1)) := by
  obtain ⟨A1, c1, rfl, l1, k1⟩ := h1.slice
  simp only [maxLen] at k1
  refine CallR.ofB (n := 39) hm Try.func36 rfl rfl rfl ?_
  refine VC.rs ?_
  refine VO.as ?_
  refine VO.k3 0 1 4 ?_
  refine VC.seq ?_
  refine VC.rs ?_
  refine VO.mv ?_
  refine VO.call 1 rfl fnOk72 rfl rfl (fun W hW => tNone_ok W (hW.at (i := 1) rfl) h0) (fun v1 m1 hv1 => ?_)
  obtain ⟨rfl, w1_0⟩ := hv1
  refine VO.k4 0 1 4 10 ?_
  refine VC.cond rfl (fun hc2 => ?_) (fun hc2 => ?_)
  · -- T
    exact hc2.elim
  · -- F
    refine VC.skip ?_
    refine outN ?_
    refine VC.seq ?_
    refine VC.rs ?_
    refine VO.mv ?_
    refine VO.y rfl (.lenS rfl tsl30) ?_
    refine VO.mv ?_
    refine VO.kp [1, 0] [(1, m1), (0, mout (wm W) (m0))] ?_
    refine VO.k7 0 1 4 10 11 12 13 ?_
    refine VC.block ?_
    refine VC.loop (G := Nat) (fun k => [(13, Value.int .i64 (((k : Nat) : Int))), (0, Value.pointer (some ⟨g0, 0, none⟩)), (1, Value.slice A1 (d1.length) (c1)), (10, Value.bool (decide (False))), (11, Value.slice A1 (d1.length) (c1)), (12, Value.int .i64 (((d1.length : Nat) : Int)))]) (fun k => [(1, m1), (0, mout (wm W) (m0))]) (fun k => (k ≤ d1.length) ∧ (∀ o ∈ d1.take k, opCheck o = 0)) (fun k => d1.length - k) 0 (⟨by omega, by simp⟩) ⟨⟨rfl, rfl, rfl, rfl, rfl, rfl, trivial⟩, fun _ h => h.sub [1, 0]⟩ ?_
    rintro k ⟨hk, ha⟩
    refine VC.rs ?_
    refine VO.y rfl (.lss rfl rfl) ?_
    refine VO.k7 0 1 10 11 12 13 14 ?_
    refine VC.seq ?_
    refine VC.cond rfl (fun hc3 => ?_) (fun hc3 => ?_)
    · -- FT
      refine VC.skip ?_
      refine outN ?_
      refine VC.seq ?_
      refine VC.block ?_
      refine VC.rs ?_
      obtain ⟨x4, hx4⟩ : ∃ z_, (d1)[k]? = some z_ := ⟨_, List.getElem?_eq_getElem bd⟩
      obtain ⟨gg4, oo4, ec4, ea4, hce4, hre4⟩ := h1.elem hx4
      cases ea4
      obtain ⟨rfl, q4_1, q4_2⟩ := open_Op (x0 := x4.1) (x1 := x4.2.1) (x2 := x4.2.2) hre4
      simp only [maxLen] at q4_1
      simp only [maxLen] at q4_2
      refine VO.y rfl (.ixI k rfl rfl tsl30 rfl bd) ?_
      refine VO.y rfl (.ldA 0 rfl tk35 rfl hce4) ?_
      refine VO.alloc 106 rfl tz35 (fun g5 => ?_)
      refine VO.store (k := 3) (c' := [Value.bool x4.1, str (x4.2.1), str (x4.2.2)]) 106 rfl rfl (.inl tk35) rfl rfl rfl rfl rfl ?_
      refine VO.k8 0 1 6 10 11 12 13 14 ?_
      refine VC.rs ?_
      refine VO.y rfl (.ldA 106 rfl tk35 rfl (cellsAt_one rfl rfl)) ?_
      refine VO.callN 107 rfl fnOk49 rfl (fun W hW => opCheck_ok W (Rd.mono hre4 (hW.at (i := 0) rfl))) (fun v7 m7 hv7 => ?_)
      subst hv7
      refine VO.y rfl (.neq rfl rfl) ?_
      refine VO.kp [106, 1, 0] [(106, mone g5 (.cells [Value.bool x4.1, str (x4.2.1), str (x4.2.2)].toArray 35 (0, 0))), (1, m1), (0, mout (wm W) (m0))] ?_
      refine VO.k9 0 1 6 10 11 12 13 14 19 ?_
      refine VC.cond rfl (fun hc8 => ?_) (fun hc8 => ?_)
      · -- FTT
        refine VC.rs ?_
        refine VO.as ?_
        refine VO.k10 0 1 4 6 10 11 12 13 14 19 ?_
        refine VC.ret ?_
        refine outBR ?_
        refine outR ?_
        refine outR ?_
        refine outBR ?_
        refine outR ?_
        refine ⟨_, _, res_run (rs := [.tmp 4]) rfl (.tmp rfl .nil), fun W_ hI => out_of (l := [m1]) hI [1] rfl rfl (mle_refl _) (fun hS_ => ?_)⟩
        dsimp only [packV]
        have hm0_ : ((mApply d0 d1).1 : DtableTable) = d0 := by first | rfl | (first | exact congrArg Prod.fst (mApply_bad ‹d1[k]? = some _› (by assumption)) | (rw [mApply_good (by have h_ := ha; rw [List.take_of_length_le (by omega)] at h_; exact h_), ht, List.take_of_length_le (by omega)]; done))
        refine ⟨?_, ?_⟩
        rotate_left
        · rw [hm0_]; exact (Ow.up w1_0 (hS_.1 _ (.head _)))
        all_goals (first | rfl | (first | exact congrArg (Value.int _) (congrArg Prod.snd (mApply_bad ‹d1[k]? = some _› (by assumption))).symm | exact congrArg (Value.int _) (congrArg Prod.snd (mApply_good (by have h_ := ha; rw [List.take_of_length_le (by omega)] at h_; exact h_))).symm))
      · -- FTF
        refine VC.skip ?_
        refine outBN ?_
        refine outN ?_
        refine VC.reg ?_
        refine VO.y rfl (.add (c := ((k + 1 : Nat) : Int)) rfl rfl (by omega) ⟨bd, bd⟩) ?_
        refine VO.mv ?_
        refine VO.k9 0 1 6 10 11 12 13 14 19 ?_
        exact outN ⟨k + 1, ⟨by omega, by exact all_one ha ‹d1[k]? = some _› (by assumption)⟩, bd, ⟨⟨rfl, rfl, rfl, rfl, rfl, rfl, trivial⟩, fun _ h => Inv.sub h [1, 0]⟩⟩
    · -- FF
      refine VC.exit ?_
      refine outE ?_
      refine outE ?_
      refine outBB ?_
      refine outN ?_
      refine VC.seq ?_
      refine VC.rs ?_
      refine VO.mv ?_
      refine VO.y rfl (.lenS rfl tsl30) ?_
      refine VO.mv ?_
      refine VO.k10 0 1 10 11 12 13 14 21 22 23 ?_
      refine VC.block ?_
      refine VC.loop (G := Nat × DtableTable × Mem) (fun g => [(23, Value.int .i64 ((((g.1) : Nat) : Int))), (0, Value.pointer (some ⟨g0, 0, none⟩)), (1, Value.slice A1 (d1.length) (c1)), (10, Value.bool (decide (False))), (11, Value.slice A1 (d1.length) (c1)), (12, Value.int .i64 (((d1.length : Nat) : Int))), (13, Value.int .i64 (((k : Nat) : Int))), (14, Value.bool (decide (((k : Nat) : Int) < ((d1.length : Nat) : Int)))), (21, Value.slice A1 (d1.length) (c1)), (22, Value.int .i64 (((d1.length : Nat) : Int)))]) (fun g => [(1, (g.2.2)), (0, mout (wm W) (m0))]) (fun g => ((g.1) ≤ d1.length) ∧ ((g.2.1) = (d1.take (g.1)).foldl mPutO d0) ∧ (Ow (.ptr TtableTable) (g.2.2) [.pointer (some ⟨g0, 0, none⟩)] (g0, (g.2.1)))) (fun g => d1.length - (g.1)) (0, d0, m1) (⟨by omega, by rfl, w1_0⟩) ⟨⟨rfl, rfl, rfl, rfl, rfl, rfl, rfl, rfl, rfl, rfl, trivial⟩, fun _ h => h.sub [1, 0]⟩ ?_
      rintro ⟨j, t, t_m⟩ ⟨hj, ht, h_t⟩
      replace hj : j ≤ d1.length := hj
      replace ht : t = (d1.take j).foldl mPutO d0 := ht
      replace h_t : Ow (.ptr TtableTable) t_m [.pointer (some ⟨g0, 0, none⟩)] (g0, t) := h_t
      show VC _ _ _ _ _ [(23, Value.int .i64 (((j : Nat) : Int))), (0, Value.pointer (some ⟨g0, 0, none⟩)), (1, Value.slice A1 (d1.length) (c1)), (10, Value.bool (decide (False))), (11, Value.slice A1 (d1.length) (c1)), (12, Value.int .i64 (((d1.length : Nat) : Int))), (13, Value.int .i64 (((k : Nat) : Int))), (14, Value.bool (decide (((k : Nat) : Int) < ((d1.length : Nat) : Int)))), (21, Value.slice A1 (d1.length) (c1)), (22, Value.int .i64 (((d1.length : Nat) : Int)))] [(1, t_m), (0, mout (wm W) (m0))]
      refine VC.rs ?_
      refine VO.y rfl (.lss rfl rfl) ?_
      refine VO.kp [1, 0] [(1, t_m), (0, mout (wm W) (m0))] ?_
      refine VO.k11 0 1 10 11 12 13 14 21 22 23 24 ?_
      refine VC.seq ?_
      refine VC.cond rfl (fun hc9 => ?_) (fun hc9 => ?_)
      · -- FFT
        refine VC.skip ?_
        refine outN ?_
        refine VC.seq ?_
        refine VC.block ?_
        refine VC.rs ?_
        obtain ⟨x10, hx10⟩ : ∃ z_, (d1)[j]? = some z_ := ⟨_, List.getElem?_eq_getElem bd⟩
        obtain ⟨gg10, oo10, ec10, ea10, hce10, hre10⟩ := h1.elem hx10
        cases ea10
        obtain ⟨rfl, q10_1, q10_2⟩ := open_Op (x0 := x10.1) (x1 := x10.2.1) (x2 := x10.2.2) hre10
        simp only [maxLen] at q10_1
        simp only [maxLen] at q10_2
        refine VO.y rfl (.ixI j rfl rfl tsl30 rfl bd) ?_
        refine VO.y rfl (.ldA 0 rfl tk35 rfl hce10) ?_
        refine VO.alloc 112 rfl tz35 (fun g11 => ?_)
        refine VO.store (k := 3) (c' := [Value.bool x10.1, str (x10.2.1), str (x10.2.2)]) 112 rfl rfl (.inl tk35) rfl rfl rfl rfl rfl ?_
        refine VO.k12 0 1 8 10 11 12 13 14 21 22 23 24 ?_
        obtain ⟨q13_E, q13_r0, q13_n0, _, q13_S, q13_0⟩ := openP_tableTable (x0 := t) h_t
        refine VC.inv _ (fun _ h => h.parts (i := 1) rfl q13_S [115, 114]) ?_
        refine VC.regD _ 11 [(0, true), (1, true), (2, true), (3, true), (4, true), (5, true), (6, true), (7, true), (8, true), (9, true), (10, true)] follows (by kernel_rfl) (fun _ h => h.sub [115, 114, 112, 0]) ?_
        refine VD.y rfl rfl (.inl rfl) (.mv rfl) ?_
        refine VD.y rfl rfl (.inl rfl) (.nilp rfl) ?_
        refine VD.y rfl rfl (.inl rfl) (.fa rfl tst111 rfl) ?_
        refine VD.y rfl rfl (.inl rfl) (.ld1 115 rfl tk109 rfl (cellsAt_one rfl rfl)) ?_
        refine VD.y rfl rfl (.inl rfl) (.fa rfl tst35 rfl) ?_
        refine VD.y rfl rfl (.inl rfl) (.ld1 112 rfl tk9 rfl (cellsAt_one rfl rfl)) ?_
        refine VD.y rfl rfl (.inl rfl) (.fa rfl tst35 rfl) ?_
        refine VD.y rfl rfl (.inl rfl) (.ld1 112 rfl tk9 rfl (cellsAt_one rfl rfl)) ?_
        refine VD.y rfl rfl (.inl rfl) (.fa rfl tst35 rfl) ?_
        refine VD.y rfl rfl (.inl rfl) (.ld1 112 rfl tk4 rfl (cellsAt_one rfl rfl)) ?_
        refine VD.y rfl rfl (.inl rfl) (.bst (cs := [str (x10.2.2), Value.bool x10.1]) rfl tst113 tz113 rfl) ?_
        refine VD.nil rfl ?_ rfl
        refine VO.mupd (v := (x10.2.2, x10.1)) 114 rfl rfl rfl Try.underlying109 Try.underlying9 rfl q13_0 bdm bdm (fun mu16 hu16 => ?_)
        refine VO.clsP 117 [115, 114] rfl (fun hg17 => (mkP_tableTable (mPut t x10.2.1 (x10.2.2, x10.1)) hg17 hu16)) (fun mc17 ho17 => ?_)
        refine VO.k12 0 1 8 10 11 12 13 14 21 22 23 24 ?_
        refine outBN ?_
        refine outN ?_
        refine VC.reg ?_
        refine VO.y rfl (.add (c := ((j + 1 : Nat) : Int)) rfl rfl (by omega) ⟨bd, bd⟩) ?_
        refine VO.mv ?_
        refine VO.kp [117, 112, 0] [(117, mc17), (112, mone g11 (.cells [Value.bool x10.1, str (x10.2.1), str (x10.2.2)].toArray 35 (0, 0))), (0, mout (wm W) (m0))] ?_
        refine VO.k12 0 1 8 10 11 12 13 14 21 22 23 24 ?_
        exact outN ⟨⟨j + 1, mPut t x10.2.1 (x10.2.2, x10.1), mc17⟩, ⟨by omega, by (rw [ht, mfold_next ‹d1[j]? = some _›]; done), ho17⟩, bd, ⟨⟨rfl, rfl, rfl, rfl, rfl, rfl, rfl, rfl, rfl, rfl, trivial⟩, fun _ h => Inv.sub (Inv.num h 117 1 rfl) [1, 0]⟩⟩
      · -- FFF
        refine VC.exit ?_
        refine outE ?_
        refine outE ?_
        refine outBB ?_
        refine outN ?_
        refine VC.rs ?_
        refine VO.as ?_
        refine VO.k12 0 1 4 10 11 12 13 14 21 22 23 24 ?_
        refine VC.ret ?_
        refine ⟨_, _, res_run (rs := [.tmp 4]) rfl (.tmp rfl .nil), fun W_ hI => out_of (l := [t_m]) hI [1] rfl rfl (mle_refl _) (fun hS_ => ?_)⟩
        dsimp only [packV]
        have hm0_ : ((mApply d0 d1).1 : DtableTable) = t := by first | rfl | (first | exact congrArg Prod.fst (mApply_bad ‹d1[k]? = some _› (by assumption)) | (rw [mApply_good (by have h_ := ha; rw [List.take_of_length_le (by omega)] at h_; exact h_), ht, List.take_of_length_le (by omega)]; done))
        refine ⟨?_, ?_⟩
        rotate_left
        · rw [hm0_]; exact (Ow.up h_t (hS_.1 _ (.head _)))
        all_goals (first | rfl | (first | exact congrArg (Value.int _) (congrArg Prod.snd (mApply_bad ‹d1[k]? = some _› (by assumption))).symm | exact congrArg (Value.int _) (congrArg Prod.snd (mApply_good (by have h_ := ha; rw [List.take_of_length_le (by omega)] at h_; exact h_))).symm))
theorem tGet_ok (W : World) {m0 : Mem} (hm : mle (m0) (wm W)) {g0 : Nat} {d0 : DtableTable} (h0 : Ow (.ptr TtableTable) m0 [.pointer (some ⟨g0, 0, none⟩)] (g0, d0)) (d1 : List UInt8) (h1 : d1.length ≤ maxLen) : CallR Try.prog 37 [.pointer (some ⟨g0, 0, none⟩), str d1] W (m0) (fun v m' => v = .tuple #[str (((mGet d0 d1).getD ([], false)).1), .bool ((mGet d0 d1).isSome), .bool (((mGet d0 d1).getD ([], false)).2)] ∧ Ow (.ptr TtableTable) m' [.pointer (some ⟨g0, 0, none⟩)] (g0, d0)) := by
  have h1' := h1; simp only [maxLen] at h1'
  refine CallR.ofB (n := 25) hm Try.func37 rfl rfl rfl ?_
  refine VC.rs ?_
  refine VO.as ?_
  refine VO.as ?_
  refine VO.as ?_
  refine VO.k5 0 1 4 5 6 ?_
  refine VC.seq ?_
  refine VC.rs ?_
  refine VO.mv ?_
  refine VO.call 1 rfl fnOk72 rfl rfl (fun W hW => tNone_ok W (hW.at (i := 1) rfl) h0) (fun v1 m1 hv1 => ?_)
  obtain ⟨rfl, w1_0⟩ := hv1
  refine VO.k6 0 1 4 5 6 10 ?_
  refine VC.cond rfl (fun hc2 => ?_) (fun hc2 => ?_)
  · -- T
    exact hc2.elim
  · -- F
    refine VC.skip ?_
    refine outN ?_
    refine VC.rs ?_
    refine VO.mv ?_
    refine VO.y rfl (.nilp rfl) ?_
    refine VO.y rfl (.fa rfl tst111 rfl) ?_
    obtain ⟨q3_E, q3_r0, q3_n0, _, q3_S, q3_0⟩ := openP_tableTable (x0 := d0) w1_0
    refine VO.inv _ (fun _ h => h.parts (i := 1) rfl q3_S [105, 104]) ?_
    refine VO.y rfl (.ld1 105 rfl tk109 rfl (cellsAt_one rfl rfl)) ?_
    refine VO.mv ?_
    refine VO.y rfl (.mlook 104 rfl rfl Try.underlying109 Try.underlying9 (zv_run (by kernel_rfl)) rfl (Ow.rd q3_0 (mle_refl _))) ?_
    refine VO.mv ?_
    refine VO.y rfl (.ext rfl rfl) ?_
    refine VO.y rfl (.ext rfl rfl) ?_
    refine VO.alloc 107 rfl tz113 (fun g6 => ?_)
    refine VO.store (k := 2) (c' := [str (((mGet d0 d1).getD ([], false)).1), Value.bool (((mGet d0 d1).getD ([], false)).2)]) 107 rfl rfl (.inl tk113) rfl rfl rfl rfl rfl ?_
    refine VO.as ?_
    refine VO.clsP 108 [105, 104] rfl (fun hg8 => (mkP_tableTable d0 hg8 q3_0)) (fun mc8 ho8 => ?_)
    refine VO.kp [108, 107, 0] [(108, mc8), (107, mone g6 (.cells [str (((mGet d0 d1).getD ([], false)).1), Value.bool (((mGet d0 d1).getD ([], false)).2)].toArray 113 (0, 0))), (0, mout (wm W) (m0))] ?_
    refine VO.k8 0 1 4 5 6 7 8 10 ?_
    refine VC.seq ?_
    refine VC.regD _ 7 [(0, true), (1, true), (2, true), (3, true), (4, true), (5, true), (6, true)] follows (by kernel_rfl) (fun _ h => h.sub [108, 107, 0]) ?_
    refine VD.y rfl rfl (.inl rfl) (.fa rfl tst113 rfl) ?_
    refine VD.y rfl rfl (.inl rfl) (.ld1 107 rfl tk9 rfl (cellsAt_one rfl rfl)) ?_
    refine VD.y rfl rfl (.inl rfl) (.mv rfl) ?_
    refine VD.y rfl rfl (.inl rfl) (.fa rfl tst113 rfl) ?_
    refine VD.y rfl rfl (.inl rfl) (.ld1 107 rfl tk4 rfl (cellsAt_one rfl rfl)) ?_
    refine VD.y rfl rfl (.inl rfl) (.as rfl) ?_
    refine VD.y rfl rfl (.inl rfl) (.as rfl) ?_
    refine VD.nil rfl ?_ rfl
    refine VO.as ?_
    refine VO.k8 0 1 4 5 6 7 8 10 ?_
    refine outN ?_
    refine VC.ret ?_
    refine ⟨_, _, res_run (rs := [.tmp 4, .tmp 5, .tmp 6]) rfl (.tmp rfl (.tmp rfl (.tmp rfl .nil))), fun W_ hI => out_of (l := [mc8]) hI [108] rfl rfl (mle_refl _) (fun hS_ => ?_)⟩
    dsimp only [packV]
    have hm0_ : (d0 : DtableTable) = d0 := by first | rfl | (simp [*]; done)
    refine ⟨?_, ?_⟩
    rotate_left
    · rw [hm0_]; exact (Ow.up ho8 (hS_.1 _ (.head _)))
    all_goals (first | rfl | (simp [*]; done))
theorem fnOk35 : fnOk Try.prog 35 = true := by kernel_rfl
theorem fnOk36 : fnOk Try.prog 36 = true := by kernel_rfl
theorem fnOk37 : fnOk Try.prog 37 = true := by kernel_rfl
theorem tsl68 : tsl Try.prog 68 = some (9, 1, 16) := by kernel_rfl
set_option maxHeartbeats 8000000 in
theorem runTable_ok (W : World) {v0 : Value} {d0 : List (List DOp)} (h0 : Rd (.sl (.sl TOp)) (wm W) [v0] d0) {v1 : Value} {d1 : List (List UInt8)} (h1 : Rd (.sl .str) (wm W) [v1] d1) (d2 : Int) (h2 : inK .i64 d2) (d3 : Int) (h3 : inK .i64 d3) : CallR Try.prog 7 [v0, v1, .int .i64 d2, .int .i64 d3] W (mnil) (fun v m' => v = .bool true) := by
  obtain ⟨A0, c0, rfl, l0, k0⟩ := h0.slice
  simp only [maxLen] at k0
  obtain ⟨A1, c1, rfl, l1, k1⟩ := h1.slice
  simp only [maxLen] at k1
  have h2' := h2; simp only [inK] at h2'
  have h3' := h3; simp only [inK] at h3'
  refine CallR.ofA (n := 188) Try.func7 rfl rfl rfl ?_
  refine VC.rs ?_
  refine VO.as ?_
  refine VO.k5 0 1 2 3 8 ?_
  refine VC.seq ?_
  refine VC.rs ?_
  refine VO.callN 101 rfl fnOk8 rfl (fun W hW => lives13_ok W ) (fun v1 m1 hv1 => ?_)
  subst hv1
  refine VO.y rfl (.not rfl) ?_
  refine VO.k6 0 1 2 3 8 28 ?_
  refine VC.condF rfl ?_
  refine VC.skip ?_
  refine outN ?_
  refine VC.seq ?_
  refine VC.rs ?_
  refine VO.mv ?_
  refine VO.y rfl (.lenS rfl tsl52) ?_
  refine VO.y rfl (.gtr rfl rfl) ?_
  refine VO.mv ?_
  refine VO.dec (t := 32) rfl (fun hc2 => ?_) (fun hc2 => ?_)
  · -- T
    refine VO.gN ?_
    refine VO.gN ?_
    refine VO.gN ?_
    refine VO.y rfl (.pT rfl rfl) ?_
    refine VO.mv ?_
    refine VO.gN ?_
    refine VO.gN ?_
    refine VO.y rfl (.pT rfl rfl) ?_
    refine VO.mv ?_
    refine VO.gN ?_
    refine VO.gN ?_
    refine VO.y rfl (.pT rfl rfl) ?_
    refine VO.kp [0] [(0, wm W)] ?_
    refine VO.k7 0 1 2 3 8 28 44 ?_
    refine VC.condT rfl ?_
    refine VC.rs ?_
    refine VO.as ?_
    refine VO.k7 0 1 2 3 8 28 44 ?_
    refine VC.ret ?_
    refine outR ?_
    refine ⟨_, _, res_run (rs := [.tmp 8]) rfl (.tmp rfl .nil), fun W_ hI => out_of (l := []) hI [] rfl rfl (mle_refl _) (fun hS_ => ?_)⟩
    dsimp only [packV]
    all_goals (first | rfl | (rfl))
  · -- F
    refine VO.gy rfl ⟨_, rfl, rfl⟩ (.mv rfl) ?_
    refine VO.gy rfl ⟨_, rfl, rfl⟩ (.lenS rfl tsl68) ?_
    refine VO.gy rfl ⟨_, rfl, rfl⟩ (.gtr rfl rfl) ?_
    refine VO.y rfl (.pF rfl rfl) ?_
    refine VO.mv ?_
    refine VO.dec (t := 37) rfl (fun hc3 => ?_) (fun hc3 => ?_)
    · -- FT
      refine VO.gN ?_
      refine VO.gN ?_
      refine VO.y rfl (.pT rfl rfl) ?_
      refine VO.mv ?_
      refine VO.gN ?_
      refine VO.gN ?_
      refine VO.y rfl (.pT rfl rfl) ?_
      refine VO.kp [0] [(0, wm W)] ?_
      refine VO.k7 0 1 2 3 8 28 44 ?_
      refine VC.condT rfl ?_
      refine VC.rs ?_
      refine VO.as ?_
      refine VO.k7 0 1 2 3 8 28 44 ?_
      refine VC.ret ?_
      refine outR ?_
      refine ⟨_, _, res_run (rs := [.tmp 8]) rfl (.tmp rfl .nil), fun W_ hI => out_of (l := []) hI [] rfl rfl (mle_refl _) (fun hS_ => ?_)⟩
      dsimp only [packV]
      all_goals (first | rfl | (rfl))
    · -- FF
      refine VO.gy rfl ⟨_, rfl, rfl⟩ (.mv rfl) ?_
      refine VO.gy rfl ⟨_, rfl, rfl⟩ (.lss rfl rfl) ?_
      refine VO.y rfl (.pF rfl rfl) ?_
      refine VO.mv ?_
      refine VO.dec (t := 41) rfl (fun hc4 => ?_) (fun hc4 => ?_)
      · -- FFT
        refine VO.gN ?_
        refine VO.gN ?_
        refine VO.y rfl (.pT rfl rfl) ?_
        refine VO.kp [0] [(0, wm W)] ?_
        refine VO.k7 0 1 2 3 8 28 44 ?_
        refine VC.condT rfl ?_
        refine VC.rs ?_
        refine VO.as ?_
        refine VO.k7 0 1 2 3 8 28 44 ?_
        refine VC.ret ?_
        refine outR ?_
        refine ⟨_, _, res_run (rs := [.tmp 8]) rfl (.tmp rfl .nil), fun W_ hI => out_of (l := []) hI [] rfl rfl (mle_refl _) (fun hS_ => ?_)⟩
        dsimp only [packV]
        all_goals (first | rfl | (rfl))
      · -- FFF
        refine VO.gy rfl ⟨_, rfl, rfl⟩ (.mv rfl) ?_
        refine VO.gy rfl ⟨_, rfl, rfl⟩ (.lss rfl rfl) ?_
        refine VO.y rfl (.pF rfl rfl) ?_
        refine VO.kp [0] [(0, wm W)] ?_
        refine VO.k7 0 1 2 3 8 28 44 ?_
        refine VC.cond rfl (fun hc5 => ?_) (fun hc5 => ?_)
        · -- FFFT
          refine VC.rs ?_
          refine VO.as ?_
          refine VO.k7 0 1 2 3 8 28 44 ?_
          refine VC.ret ?_
          refine outR ?_
          refine ⟨_, _, res_run (rs := [.tmp 8]) rfl (.tmp rfl .nil), fun W_ hI => out_of (l := []) hI [] rfl rfl (mle_refl _) (fun hS_ => ?_)⟩
          dsimp only [packV]
          all_goals (first | rfl | (rfl))
        · -- FFFF
          refine VC.skip ?_
          refine outN ?_
          refine VC.rs ?_
          refine VO.callN 106 rfl fnOk10 rfl (fun W hW => dNew_ok W ) (fun v6 m6 hv6 => ?_)
          obtain ⟨s6_0, rfl, f6_0⟩ := hv6
          have hfa7 := okD_new
          have hfa8 := (show wD newD = 0 from rfl)
          refine VO.as ?_
          refine VO.k8 0 1 2 3 8 9 28 44 ?_
          refine VC.rs ?_
          refine VO.mv ?_
          by_cases hsp9 : (uOpen newD).2 = 0
          · -- FFFFT
            refine VO.call 106 rfl fnOk9 rfl rfl (fun W hW => uOpenY_ok W (hW.at (i := 106) rfl) f6_0 (by assumption) bd (by assumption)) (fun v10 m10 hv10 => ?_)
            obtain ⟨s10_0, rfl, f10_0⟩ := hv10
            have hfa11 := (uopen_ok (show okD newD by assumption))
            have hfa12 := (uopen_w (show okD newD by assumption))
            have hfa13 := (runF_ok (dRead newD 2).1).1
            refine VO.mv ?_
            refine VO.y rfl (.ext rfl rfl) ?_
            refine VO.y rfl (.ext rfl rfl) ?_
            refine VO.as ?_
            refine VO.as ?_
            refine VO.k10 0 1 2 3 8 9 10 11 28 44 ?_
            refine VC.rs ?_
            refine VO.callN 114 rfl fnOk35 rfl (fun W hW => tNew_ok W ) (fun v14 m14 hv14 => ?_)
            obtain ⟨s14_0, rfl, f14_0⟩ := hv14
            refine VO.as ?_
            refine VO.kp [114, 106, 0] [(114, m14), (106, m10), (0, wm W)] ?_
            refine VO.k11 0 1 2 3 8 9 10 11 12 28 44 ?_
            refine VC.seq ?_
            refine VC.rs ?_
            refine VO.mv ?_
            refine VO.y rfl (.neq rfl rfl) ?_
            refine VO.mv ?_
            refine VO.dec (t := 54) rfl (fun hc15 => ?_) (fun hc15 => ?_)
            · -- FFFFTT
              first | exact absurd rfl hc15 | exact absurd (by decide) hc15 | (refine absurd ?_ hc15; rw [ru0]; done) | exact absurd hrr.1 hc15 | exact absurd (congrArg Prod.snd hrr.2.1) hc15 | exact absurd hrr.2.2.1 hc15 | exact absurd hrr.2.2.2.2.2.2.1 hc15 | (refine absurd ?_ hc15; rw [hrr.2.1]; done) | exact absurd (kq_pull (ku_kq hz.2) (ku_on hz.2)).1 hc15 | exact absurd (kq_start (kq_pull (ku_kq hz.2) (ku_on hz.2)).2.1 (kq_pull (ku_kq hz.2) (ku_on hz.2)).2.2 (by omega) (by omega)).1 hc15 | exact absurd hko.1 hc15 | exact absurd hen hc15 | (refine absurd ?_ hc15; rw [hans]; done) | exact absurd (by rw [hans]) hc15 | (exfalso; omega)
            · -- FFFFTF
              refine VO.gy rfl ⟨_, rfl, rfl⟩ (.mv rfl) ?_
              refine VO.gy rfl ⟨_, rfl, rfl⟩ (.pnil rfl rfl Try.underlying23 rfl) ?_
              refine VO.y rfl (.pF rfl rfl) ?_
              refine VO.mv ?_
              refine VO.gy rfl ⟨_, rfl, rfl⟩ (.mv rfl) ?_
              refine VO.gy rfl ⟨_, rfl, rfl⟩ (.pnil rfl rfl Try.underlying69 rfl) ?_
              refine VO.y rfl (.pF rfl rfl) ?_
              refine VO.k12 0 1 2 3 8 9 10 11 12 28 44 61 ?_
              refine VC.condF rfl ?_
              refine VC.skip ?_
              refine outN ?_
              refine VC.seq ?_
              refine VC.rs ?_
              refine VO.as ?_
              refine VO.k13 0 1 2 3 8 9 10 11 12 13 28 44 61 ?_
              refine VC.block ?_
              refine VC.loop (G := Nat × DdiskDisk × Bool × (List DRun) × Mem × DtableTable × Mem) (fun g => [(13, Value.int .i64 ((((g.1) : Nat) : Int))), (0, Value.slice A0 (d0.length) (c0)), (1, Value.slice A1 (d1.length) (c1)), (2, Value.int .i64 (d2)), (3, Value.int .i64 (d3)), (9, Value.pointer (some ⟨s6_0, 0, none⟩)), (10, Value.pointer (some ⟨s10_0, 0, none⟩)), (11, Value.int .i64 (0)), (12, Value.pointer (some ⟨s14_0, 0, none⟩)), (28, Value.bool false), (44, Value.bool (decide (d3 < 0))), (61, Value.bool false)]) (fun g => [(114, (g.2.2.2.2.2.2)), (106, (g.2.2.2.2.1)), (0, wm W)]) (fun g => ((g.1) ≤ d0.length) ∧ (Kz (g.2.1) (g.2.2.2.1)) ∧ ((g.2.2.1) = false) ∧ (((g.2.2.2.1).length : Int) = (g.1) ∧ endR (g.2.2.2.1) = (g.1)) ∧ (tabOk (g.2.2.2.2.2.1) (g.2.2.2.1)) ∧ (wD (g.2.1) ≤ 200000 * (g.1) + 10) ∧ (Ow (.ptr TrunRuns) (g.2.2.2.2.1) [.pointer (some ⟨s10_0, 0, none⟩)] (s10_0, ((s6_0, (g.2.1)), (g.2.2.1), (g.2.2.2.1)))) ∧ (Ow (.ptr TtableTable) (g.2.2.2.2.2.2) [.pointer (some ⟨s14_0, 0, none⟩)] (s14_0, (g.2.2.2.2.2.1)))) (fun g => d0.length - (g.1)) (0, (uOpen newD).1, false, (runF (dRead newD 2).1).1, m10, ([] : MapD), m14) (⟨by (dsimp only; omega), by (rw [ru0, ru0l]; exact kz_new), by rfl, by (rw [ru0l]; exact ⟨rfl, rfl⟩), by (rw [ru0l]; exact tab_nil), by (first | (rw [ru0]; dsimp only; omega) | (dsimp only; omega)), f10_0, f14_0⟩) ⟨⟨rfl, rfl, rfl, rfl, rfl, rfl, rfl, rfl, rfl, rfl, rfl, rfl, trivial⟩, fun _ h => h.sub [114, 106, 0]⟩ ?_
              rintro ⟨i, w_0, w_1, w_2, w_m, t, t_m⟩ ⟨hi, hz, hb, hl, hT, hw, h_w, h_t⟩
              replace hi : i ≤ d0.length := hi
              replace hz : Kz w_0 w_2 := hz
              replace hb : w_1 = false := hb
              replace hl : (w_2.length : Int) = i ∧ endR w_2 = i := hl
              replace hT : tabOk t w_2 := hT
              replace hw : wD w_0 ≤ 200000 * i + 10 := hw
              replace h_w : Ow (.ptr TrunRuns) w_m [.pointer (some ⟨s10_0, 0, none⟩)] (s10_0, ((s6_0, w_0), w_1, w_2)) := h_w
              replace h_t : Ow (.ptr TtableTable) t_m [.pointer (some ⟨s14_0, 0, none⟩)] (s14_0, t) := h_t
              show VC _ _ _ _ _ [(13, Value.int .i64 (((i : Nat) : Int))), (0, Value.slice A0 (d0.length) (c0)), (1, Value.slice A1 (d1.length) (c1)), (2, Value.int .i64 (d2)), (3, Value.int .i64 (d3)), (9, Value.pointer (some ⟨s6_0, 0, none⟩)), (10, Value.pointer (some ⟨s10_0, 0, none⟩)), (11, Value.int .i64 (0)), (12, Value.pointer (some ⟨s14_0, 0, none⟩)), (28, Value.bool false), (44, Value.bool (decide (d3 < 0))), (61, Value.bool false)] [(114, t_m), (106, w_m), (0, wm W)]
              have hok := ku_ok hz.2
              have hku := hz.2.2.1
              refine VC.seq ?_
              refine VC.rs ?_
              refine VO.mv ?_
              refine VO.mv ?_
              refine VO.y rfl (.lenS rfl tsl52) ?_
              refine VO.y rfl (.lss rfl rfl) ?_
              refine VO.kp [114, 106, 0] [(114, t_m), (106, w_m), (0, wm W)] ?_
              refine VO.k13 0 1 2 3 9 10 11 12 13 28 44 61 65 ?_
              refine VC.cond rfl (fun hc16 => ?_) (fun hc16 => ?_)
              · -- FFFFTFT
                refine VC.skip ?_
                refine outN ?_
                refine VC.seq ?_
                refine VC.block ?_
                refine VC.seq ?_
                refine VC.rs ?_
                refine VO.mv ?_
                refine VO.mv ?_
                obtain ⟨x17, hx17⟩ : ∃ z_, (d0)[i]? = some z_ := ⟨_, List.getElem?_eq_getElem bd⟩
                obtain ⟨gg17, oo17, ec17, ea17, hce17, hre17⟩ := h0.elem hx17
                cases ea17
                have hr17 := hre17
                obtain ⟨A17_, c17_, rfl, _⟩ := hre17
                have rr17 := Rd.room hr17
                refine VO.y rfl (.ixI i rfl rfl tsl52 rfl bd) ?_
                refine VO.y rfl (.ld1 0 rfl tk30 rfl hce17) ?_
                refine VO.y rfl (.lenS rfl tsl30) ?_
                refine VO.y rfl (.gtr rfl rfl) ?_
                refine VO.k14 0 1 2 3 9 10 11 12 13 28 44 61 65 73 ?_
                refine VC.cond rfl (fun hc18 => ?_) (fun hc18 => ?_)
                · -- FFFFTFTT
                  refine VC.rs ?_
                  refine VO.as ?_
                  refine VO.k15 0 1 2 3 8 9 10 11 12 13 28 44 61 65 73 ?_
                  refine VC.ret ?_
                  refine outR ?_
                  refine outBR ?_
                  refine outR ?_
                  refine outR ?_
                  refine outBR ?_
                  refine outR ?_
                  refine ⟨_, _, res_run (rs := [.tmp 8]) rfl (.tmp rfl .nil), fun W_ hI => out_of (l := []) hI [] rfl rfl (mle_refl _) (fun hS_ => ?_)⟩
                  dsimp only [packV]
                  all_goals (first | rfl | (rfl))
                · -- FFFFTFTF
                  refine VC.skip ?_
                  refine outN ?_
                  refine VC.seq ?_
                  refine VC.regE [(114, t_m), (0, wm W)] 13 follows (by kernel_rfl) (fun _ h => h.sub [114, 0]) ?_
                  refine VE.y 0 rfl rfl (.inl rfl) (by kernel_rfl) (.mv rfl) ?_
                  refine VE.y 3 rfl rfl (.inl rfl) (by kernel_rfl) (.mv rfl) ?_
                  refine VE.y 6 rfl rfl (.inl rfl) (by kernel_rfl) (.mv rfl) ?_
                  refine VE.y 7 rfl rfl (.inl rfl) (by kernel_rfl) (.mv rfl) ?_
                  refine VE.y 8 rfl rfl (.inl rfl) (by kernel_rfl) (.ixI i rfl rfl tsl52 rfl bd) ?_
                  refine VE.y 9 rfl rfl (.inl rfl) (by kernel_rfl) (.ld1 0 rfl tk30 rfl hce17) ?_
                  refine VE.tree [1, 12] (by kernel_rfl) ⟨?_, ?_, trivial⟩
                  · -- FFFFTFTF0
                    refine VI.call 106 rfl rfl (.inl rfl) fnOk28 rfl rfl (fun _ _ h => Inv.sbK [114, 0] h) (fun W hW => uEnd_ok W (hW.at (i := 106) rfl) h_w (by assumption)) (fun v20 m20 hv20 => ?_)
                    try dsimp only at hv20
                    obtain ⟨rfl, w20_0⟩ := hv20
                    refine VE.y 2 rfl rfl (.inl rfl) (by kernel_rfl) (.add rfl rfl rfl ⟨bd, bd⟩) ?_
                    refine VE.tree [4, 12] (by kernel_rfl) ⟨?_, ?_, trivial⟩
                    · -- FFFFTFTF00
                      refine VI.call 106 rfl rfl (.inl rfl) fnOk28 rfl rfl (fun _ _ h => Inv.sbK [114, 0] h) (fun W hW => uEnd_ok W (hW.at (i := 106) rfl) w20_0 (by assumption)) (fun v21 m21 hv21 => ?_)
                      try dsimp only at hv21
                      obtain ⟨rfl, w21_0⟩ := hv21
                      refine VE.y 5 rfl rfl (.inl rfl) (by kernel_rfl) (.add rfl rfl rfl ⟨bd, bd⟩) ?_
                      refine VE.tree [10, 12] (by kernel_rfl) ⟨?_, ?_, trivial⟩
                      · -- FFFFTFTF000
                        refine VI.callN 122 rfl rfl (.inl rfl) fnOk31 rfl (fun _ h => Inv.sbK [114, 0] h) (fun W hW => sorted13_ok W (Rd.mono hr17 (hW.at (i := 0) rfl)) bd) (fun v22 m22 hv22 => ?_)
                        obtain ⟨s22_0, rfl, f22_0⟩ := hv22
                        have hfa23 := sorted_up x17
                        obtain ⟨A22_0, c22_0, eq22_0, l22_0, k22_0⟩ := f22_0.slice
                        subst eq22_0
                        simp only [maxLen] at k22_0
                        refine VE.y 11 rfl rfl (.inl rfl) (by kernel_rfl) (.bst (cs := [Value.int .i64 ((endR w_2) + 1), Value.int .i64 ((endR w_2) + 1), Value.slice A22_0 ((sortedOf x17).length) (c22_0)]) rfl tst32 tz32 rfl) ?_
                        refine VE.tree [12] (by kernel_rfl) ⟨?_, trivial⟩
                        refine VI.alloc 125 rfl rfl tz32 (fun _ _ h => Inv.sbK [114, 0] h) (fun g24 => ?_)
                        refine VE.nil (by kernel_rfl) rfl ?_ rfl
                        refine VO.store (k := 3) (c' := [Value.int .i64 ((endR w_2) + 1), Value.int .i64 ((endR w_2) + 1), Value.slice A22_0 ((sortedOf x17).length) (c22_0)]) 125 rfl rfl (.inl tk32) rfl rfl rfl rfl rfl ?_
                        have hrr := rt_round (y := x17) hz hb hl hT (by omega) (by omega)
                        refine VO.k15 0 1 2 3 9 10 11 12 13 14 28 44 61 65 73 ?_
                        refine outN ?_
                        refine VC.rs ?_
                        refine VO.y rfl (.ldA 125 rfl tk32 rfl (cellsAt_one rfl rfl)) ?_
                        refine VO.callN 126 rfl fnOk17 rfl (fun W hW => runEncode_ok W (mk_Run (m := wm W) ((endR w_2) + 1) ((endR w_2) + 1) (sortedOf x17) bdk bdk (OwnL.rd (Ow.ownl f22_0 rfl mnil) (hW.at (i := 122) rfl) (mle_nil _)))) (fun v26 m26 hv26 => ?_)
                        try dsimp only at hv26
                        obtain ⟨s26_0, rfl, f26_0⟩ := hv26
                        have hfa27 := runEncode_len ((endR w_2) + 1, (endR w_2) + 1, sortedOf x17)
                        obtain ⟨A26_0, c26_0, eq26_0, l26_0, k26_0⟩ := f26_0.slice
                        subst eq26_0
                        simp only [maxLen] at k26_0
                        refine VO.mv ?_
                        refine VO.y rfl (.ext rfl rfl) ?_
                        refine VO.y rfl (.ext rfl rfl) ?_
                        refine VO.as ?_
                        refine VO.as ?_
                        refine VO.kp [126, 125, 122, 106, 114, 0] [(126, m26), (125, mone g24 (.cells [Value.int .i64 ((endR w_2) + 1), Value.int .i64 ((endR w_2) + 1), Value.slice A22_0 ((sortedOf x17).length) (c22_0)].toArray 32 (0, 0))), (122, m22), (106, m21), (114, t_m), (0, wm W)] ?_
                        refine VO.k17 0 1 2 3 9 10 11 12 13 14 15 16 28 44 61 65 73 ?_
                        refine VC.seq ?_
                        refine VC.rs ?_
                        refine VO.mv ?_
                        refine VO.y rfl (.neq rfl rfl) ?_
                        refine VO.k18 0 1 2 3 9 10 11 12 13 14 15 16 28 44 61 65 73 92 ?_
                        refine VC.cond rfl (fun hc28 => ?_) (fun hc28 => ?_)
                        · -- FFFFTFTF000T
                          first | exact absurd rfl hc28 | exact absurd (by decide) hc28 | (refine absurd ?_ hc28; rw [ru0]; done) | exact absurd hrr.1 hc28 | exact absurd (congrArg Prod.snd hrr.2.1) hc28 | exact absurd hrr.2.2.1 hc28 | exact absurd hrr.2.2.2.2.2.2.1 hc28 | (refine absurd ?_ hc28; rw [hrr.2.1]; done) | exact absurd (kq_pull (ku_kq hz.2) (ku_on hz.2)).1 hc28 | exact absurd (kq_start (kq_pull (ku_kq hz.2) (ku_on hz.2)).2.1 (kq_pull (ku_kq hz.2) (ku_on hz.2)).2.2 (by omega) (by omega)).1 hc28 | exact absurd hko.1 hc28 | exact absurd hen hc28 | (refine absurd ?_ hc28; rw [hans]; done) | exact absurd (by rw [hans]) hc28 | (exfalso; omega)
                        · -- FFFFTFTF000F
                          refine VC.skip ?_
                          refine outN ?_
                          refine VC.rs ?_
                          refine VO.mv ?_
                          refine VO.callN 129 rfl fnOk19 rfl (fun W hW => runDecode_ok W (OwnL.rd (Ow.ownl f26_0 rfl mnil) (hW.at (i := 126) rfl) (mle_nil _))) (fun v29 m29 hv29 => ?_)
                          obtain ⟨s29_0, rfl, f29_0⟩ := hv29
                          have hfa30 := runDecode_fits ((runEncode ((endR w_2) + 1, (endR w_2) + 1, sortedOf x17)).1)
                          obtain ⟨q29_0_A2, q29_0_c2, q29_0_n2, rfl, q29_0_S, q29_0_0, q29_0_1, q29_0_2⟩ := openO_Run (x0 := ((runDecode ((runEncode ((endR w_2) + 1, (endR w_2) + 1, sortedOf x17)).1)).1).1) (x1 := ((runDecode ((runEncode ((endR w_2) + 1, (endR w_2) + 1, sortedOf x17)).1)).1).2.1) (x2 := ((runDecode ((runEncode ((endR w_2) + 1, (endR w_2) + 1, sortedOf x17)).1)).1).2.2) f29_0
                          simp only [inK] at q29_0_0
                          simp only [inK] at q29_0_1
                          have q29_0_r2 := q29_0_2.rm
                          refine VO.inv _ (fun _ h => h.parts (i := 129) rfl q29_0_S [131]) ?_
                          refine VO.mv ?_
                          refine VO.y rfl (.ext rfl rfl) ?_
                          refine VO.y rfl (.ext rfl rfl) ?_
                          refine VO.alloc 133 rfl tz32 (fun g32 => ?_)
                          refine VO.store (k := 3) (c' := [Value.int .i64 (((runDecode ((runEncode ((endR w_2) + 1, (endR w_2) + 1, sortedOf x17)).1)).1).1), Value.int .i64 (((runDecode ((runEncode ((endR w_2) + 1, (endR w_2) + 1, sortedOf x17)).1)).1).2.1), Value.slice q29_0_A2 ((((runDecode ((runEncode ((endR w_2) + 1, (endR w_2) + 1, sortedOf x17)).1)).1).2.2).length) (q29_0_c2)]) 133 rfl rfl (.inl tk32) rfl rfl rfl rfl rfl ?_
                          refine VO.as ?_
                          refine VO.k20 0 1 2 3 9 10 11 12 13 14 15 16 17 18 28 44 61 65 73 92 ?_
                          refine VC.rs ?_
                          refine VO.mv ?_
                          refine VO.y rfl (.neq rfl rfl) ?_
                          refine VO.mv ?_
                          refine VO.dec (t := 100) rfl (fun hc34 => ?_) (fun hc34 => ?_)
                          · -- FFFFTFTF000FT
                            first | exact absurd rfl hc34 | exact absurd (by decide) hc34 | (refine absurd ?_ hc34; rw [ru0]; done) | exact absurd hrr.1 hc34 | exact absurd (congrArg Prod.snd hrr.2.1) hc34 | exact absurd hrr.2.2.1 hc34 | exact absurd hrr.2.2.2.2.2.2.1 hc34 | (refine absurd ?_ hc34; rw [hrr.2.1]; done) | exact absurd (kq_pull (ku_kq hz.2) (ku_on hz.2)).1 hc34 | exact absurd (kq_start (kq_pull (ku_kq hz.2) (ku_on hz.2)).2.1 (kq_pull (ku_kq hz.2) (ku_on hz.2)).2.2 (by omega) (by omega)).1 hc34 | exact absurd hko.1 hc34 | exact absurd hen hc34 | (refine absurd ?_ hc34; rw [hans]; done) | exact absurd (by rw [hans]) hc34 | (exfalso; omega)
                          · -- FFFFTFTF000FF
                            refine VO.gy rfl ⟨_, rfl, rfl⟩ (.ldA 125 rfl tk32 rfl (cellsAt_one rfl rfl)) ?_
                            refine VO.gbsl (cs := [Value.int .i64 ((endR w_2) + 1), Value.int .i64 ((endR w_2) + 1), Value.slice A22_0 ((sortedOf x17).length) (c22_0)]) 136 rfl ⟨_, rfl, rfl⟩ rfl tsl47 tz32 rfl rfl (fun g35 => ?_)
                            refine VO.gy rfl ⟨_, rfl, rfl⟩ (.ldA 133 rfl tk32 rfl (cellsAt_one rfl rfl)) ?_
                            refine VO.gbsl (cs := [Value.int .i64 (((runDecode ((runEncode ((endR w_2) + 1, (endR w_2) + 1, sortedOf x17)).1)).1).1), Value.int .i64 (((runDecode ((runEncode ((endR w_2) + 1, (endR w_2) + 1, sortedOf x17)).1)).1).2.1), Value.slice q29_0_A2 ((((runDecode ((runEncode ((endR w_2) + 1, (endR w_2) + 1, sortedOf x17)).1)).1).2.2).length) (q29_0_c2)]) 138 rfl ⟨_, rfl, rfl⟩ rfl tsl47 tz32 rfl rfl (fun g37 => ?_)
                            refine VO.gather (l := [mone g35 (.cells [Value.int .i64 ((endR w_2) + 1), Value.int .i64 ((endR w_2) + 1), Value.slice A22_0 ((sortedOf x17).length) (c22_0)].toArray 32 (0, 0)), m22]) 141 [136, 122] rfl (fun hg40 => ?_)
                            have ho40 : Ow (.sl TRun) (muns [mone g35 (.cells [Value.int .i64 ((endR w_2) + 1), Value.int .i64 ((endR w_2) + 1), Value.slice A22_0 ((sortedOf x17).length) (c22_0)].toArray 32 (0, 0)), m22]) [Value.slice (some ⟨g35, 0, none⟩) (1) (1)] [((endR w_2) + 1, (endR w_2) + 1, sortedOf x17)] := Ow.lit 1 (Seps.grp1 (ls := [[m22]]) hg40) (OwAs.cons (m := muns [m22]) (c1 := [Value.int .i64 ((endR w_2) + 1), Value.int .i64 ((endR w_2) + 1), Value.slice A22_0 ((sortedOf x17).length) (c22_0)]) (mkO_Run ((endR w_2) + 1) ((endR w_2) + 1) (sortedOf x17) (Seps.self hg40 (List.Sublist.cons _ (List.Sublist.cons_cons _ List.Sublist.slnil))) bdk bdk (OwnL.ow (Ow.ownl f22_0 rfl mnil) rfl)) OwAs.nil) rfl rfl
                            refine VO.gather (l := [mone g37 (.cells [Value.int .i64 (((runDecode ((runEncode ((endR w_2) + 1, (endR w_2) + 1, sortedOf x17)).1)).1).1), Value.int .i64 (((runDecode ((runEncode ((endR w_2) + 1, (endR w_2) + 1, sortedOf x17)).1)).1).2.1), Value.slice q29_0_A2 ((((runDecode ((runEncode ((endR w_2) + 1, (endR w_2) + 1, sortedOf x17)).1)).1).2.2).length) (q29_0_c2)].toArray 32 (0, 0)), q29_0_n2]) 143 [138, 131] rfl (fun hg42 => ?_)
                            have ho42 : Ow (.sl TRun) (muns [mone g37 (.cells [Value.int .i64 (((runDecode ((runEncode ((endR w_2) + 1, (endR w_2) + 1, sortedOf x17)).1)).1).1), Value.int .i64 (((runDecode ((runEncode ((endR w_2) + 1, (endR w_2) + 1, sortedOf x17)).1)).1).2.1), Value.slice q29_0_A2 ((((runDecode ((runEncode ((endR w_2) + 1, (endR w_2) + 1, sortedOf x17)).1)).1).2.2).length) (q29_0_c2)].toArray 32 (0, 0)), q29_0_n2]) [Value.slice (some ⟨g37, 0, none⟩) (1) (1)] [((runDecode ((runEncode ((endR w_2) + 1, (endR w_2) + 1, sortedOf x17)).1)).1)] := Ow.lit 1 (Seps.grp1 (ls := [[q29_0_n2]]) hg42) (OwAs.cons (m := muns [q29_0_n2]) (c1 := [Value.int .i64 (((runDecode ((runEncode ((endR w_2) + 1, (endR w_2) + 1, sortedOf x17)).1)).1).1), Value.int .i64 (((runDecode ((runEncode ((endR w_2) + 1, (endR w_2) + 1, sortedOf x17)).1)).1).2.1), Value.slice q29_0_A2 ((((runDecode ((runEncode ((endR w_2) + 1, (endR w_2) + 1, sortedOf x17)).1)).1).2.2).length) (q29_0_c2)]) (show Ow TRun _ _ ((runDecode ((runEncode ((endR w_2) + 1, (endR w_2) + 1, sortedOf x17)).1)).1) from (mkO_Run (((runDecode ((runEncode ((endR w_2) + 1, (endR w_2) + 1, sortedOf x17)).1)).1).1) (((runDecode ((runEncode ((endR w_2) + 1, (endR w_2) + 1, sortedOf x17)).1)).1).2.1) (((runDecode ((runEncode ((endR w_2) + 1, (endR w_2) + 1, sortedOf x17)).1)).1).2.2) (Seps.self hg42 (List.Sublist.cons _ (List.Sublist.cons_cons _ List.Sublist.slnil))) bdk bdk (OwnL.ow (Ow.ownl q29_0_2 rfl mnil) rfl))) OwAs.nil) rfl rfl
                            refine VO.gcallN 139 rfl ⟨_, rfl, rfl⟩ fnOk23 rfl (fun W hW => SameRuns_ok W (Ow.rd ho40 (hW.at (i := 141) rfl)) (Ow.rd ho42 (hW.at (i := 143) rfl))) (fun v39 m39 hv39 => ?_)
                            subst hv39
                            refine VO.parts 141 [136, 122] rfl hg40 ?_
                            refine VO.parts 143 [138, 131] rfl hg42 ?_
                            refine VO.gy rfl ⟨_, rfl, rfl⟩ (.notD rfl) ?_
                            refine VO.y rfl (.pF rfl rfl) ?_
                            refine VO.mv ?_
                            refine VO.dec (t := 108) rfl (fun hc44 => ?_) (fun hc44 => ?_)
                            · -- FFFFTFTF000FFT
                              first | exact absurd rfl hc44 | exact absurd (by decide) hc44 | (refine absurd ?_ hc44; rw [ru0]; done) | exact absurd hrr.1 hc44 | exact absurd (congrArg Prod.snd hrr.2.1) hc44 | exact absurd hrr.2.2.1 hc44 | exact absurd hrr.2.2.2.2.2.2.1 hc44 | (refine absurd ?_ hc44; rw [hrr.2.1]; done) | exact absurd (kq_pull (ku_kq hz.2) (ku_on hz.2)).1 hc44 | exact absurd (kq_start (kq_pull (ku_kq hz.2) (ku_on hz.2)).2.1 (kq_pull (ku_kq hz.2) (ku_on hz.2)).2.2 (by omega) (by omega)).1 hc44 | exact absurd hko.1 hc44 | exact absurd hen hc44 | (refine absurd ?_ hc44; rw [hans]; done) | exact absurd (by rw [hans]) hc44 | (exfalso; omega)
                            · -- FFFFTFTF000FFF
                              refine VO.gy rfl ⟨_, rfl, rfl⟩ (.mv rfl) ?_
                              refine VO.gy rfl ⟨_, rfl, rfl⟩ (.ldA 125 rfl tk32 rfl (cellsAt_one rfl rfl)) ?_
                              refine VO.gcall 106 rfl ⟨_, rfl, rfl⟩ fnOk11 rfl rfl (fun W hW => uFlush_ok W (hW.at (i := 106) rfl) w21_0 (mk_Run (m := mout (wm W) (m21)) ((endR w_2) + 1) ((endR w_2) + 1) (sortedOf x17) bdk bdk (OwnL.rd (Ow.ownl f22_0 rfl mnil) (hW.out (i := 106) (j := 122) rfl rfl) (mle_nil _))) (by assumption) bd (by assumption)) (fun v45 m45 hv45 => ?_)
                              try dsimp only at hv45
                              obtain ⟨rfl, w45_0⟩ := hv45
                              have hfa46 := (flush_ok (br := w_1) (l := w_2) (x := ((endR w_2) + 1, (endR w_2) + 1, sortedOf x17)) (show okD w_0 by assumption))
                              have hfa47 := (flush_w (br := w_1) (l := w_2) (x := ((endR w_2) + 1, (endR w_2) + 1, sortedOf x17)) (show okD w_0 by assumption))
                              have hfa48 := (flush_okU (d := w_0) (br := w_1) (x := ((endR w_2) + 1, (endR w_2) + 1, sortedOf x17)) (show okU w_2 by assumption))
                              refine VO.gy rfl ⟨_, rfl, rfl⟩ (.neq rfl rfl) ?_
                              refine VO.y rfl (.pF rfl rfl) ?_
                              refine VO.mv ?_
                              refine VO.dec (t := 114) rfl (fun hc49 => ?_) (fun hc49 => ?_)
                              · -- FFFFTFTF000FFFT
                                first | exact absurd rfl hc49 | exact absurd (by decide) hc49 | (refine absurd ?_ hc49; rw [ru0]; done) | exact absurd hrr.1 hc49 | exact absurd (congrArg Prod.snd hrr.2.1) hc49 | exact absurd hrr.2.2.1 hc49 | exact absurd hrr.2.2.2.2.2.2.1 hc49 | (refine absurd ?_ hc49; rw [hrr.2.1]; done) | exact absurd (kq_pull (ku_kq hz.2) (ku_on hz.2)).1 hc49 | exact absurd (kq_start (kq_pull (ku_kq hz.2) (ku_on hz.2)).2.1 (kq_pull (ku_kq hz.2) (ku_on hz.2)).2.2 (by omega) (by omega)).1 hc49 | exact absurd hko.1 hc49 | exact absurd hen hc49 | (refine absurd ?_ hc49; rw [hans]; done) | exact absurd (by rw [hans]) hc49 | (exfalso; omega)
                              · -- FFFFTFTF000FFFF
                                refine VO.gy rfl ⟨_, rfl, rfl⟩ (.mv rfl) ?_
                                refine VO.gy rfl ⟨_, rfl, rfl⟩ (.fa rfl tst32 rfl) ?_
                                refine VO.gy rfl ⟨_, rfl, rfl⟩ (.ld1 125 rfl tk30 rfl (cellsAt_one rfl rfl)) ?_
                                refine VO.gcall 114 rfl ⟨_, rfl, rfl⟩ fnOk36 rfl rfl (fun W hW => tApply_ok W (hW.at (i := 114) rfl) h_t (OwnL.rd (Ow.ownl f22_0 rfl mnil) (hW.out (i := 114) (j := 122) rfl rfl) (mle_nil _))) (fun v50 m50 hv50 => ?_)
                                obtain ⟨rfl, w50_0⟩ := hv50
                                refine VO.gy rfl ⟨_, rfl, rfl⟩ (.neq rfl rfl) ?_
                                refine VO.y rfl (.pF rfl rfl) ?_
                                refine VO.kp [114, 106, 131, 122, 133, 126, 125, 0] [(114, m50), (106, m45), (131, q29_0_n2), (122, m22), (133, mone g32 (.cells [Value.int .i64 (((runDecode ((runEncode ((endR w_2) + 1, (endR w_2) + 1, sortedOf x17)).1)).1).1), Value.int .i64 (((runDecode ((runEncode ((endR w_2) + 1, (endR w_2) + 1, sortedOf x17)).1)).1).2.1), Value.slice q29_0_A2 ((((runDecode ((runEncode ((endR w_2) + 1, (endR w_2) + 1, sortedOf x17)).1)).1).2.2).length) (q29_0_c2)].toArray 32 (0, 0))), (126, m26), (125, mone g24 (.cells [Value.int .i64 ((endR w_2) + 1), Value.int .i64 ((endR w_2) + 1), Value.slice A22_0 ((sortedOf x17).length) (c22_0)].toArray 32 (0, 0))), (0, wm W)] ?_
                                refine VO.k21 0 1 2 3 9 10 11 12 13 14 15 16 17 18 28 44 61 65 73 92 120 ?_
                                refine VC.cond rfl (fun hc51 => ?_) (fun hc51 => ?_)
                                · -- FFFFTFTF000FFFFT
                                  first | exact absurd rfl hc51 | exact absurd (by decide) hc51 | (refine absurd ?_ hc51; rw [ru0]; done) | exact absurd hrr.1 hc51 | exact absurd (congrArg Prod.snd hrr.2.1) hc51 | exact absurd hrr.2.2.1 hc51 | exact absurd hrr.2.2.2.2.2.2.1 hc51 | (refine absurd ?_ hc51; rw [hrr.2.1]; done) | exact absurd (kq_pull (ku_kq hz.2) (ku_on hz.2)).1 hc51 | exact absurd (kq_start (kq_pull (ku_kq hz.2) (ku_on hz.2)).2.1 (kq_pull (ku_kq hz.2) (ku_on hz.2)).2.2 (by omega) (by omega)).1 hc51 | exact absurd hko.1 hc51 | exact absurd hen hc51 | (refine absurd ?_ hc51; rw [hans]; done) | exact absurd (by rw [hans]) hc51 | (exfalso; omega)
                                · -- FFFFTFTF000FFFFF
                                  refine VC.skip ?_
                                  refine outBN ?_
                                  refine outN ?_
                                  refine VC.reg ?_
                                  refine VO.mv ?_
                                  refine VO.y rfl (.add (c := ((i + 1 : Nat) : Int)) rfl rfl (by omega) ⟨bd, bd⟩) ?_
                                  refine VO.as ?_
                                  refine VO.k21 0 1 2 3 9 10 11 12 13 14 15 16 17 18 28 44 61 65 73 92 120 ?_
                                  exact outN ⟨⟨i + 1, (uFlush w_0 w_1 w_2 ((endR w_2) + 1, (endR w_2) + 1, sortedOf x17)).1.1, (uFlush w_0 w_1 w_2 ((endR w_2) + 1, (endR w_2) + 1, sortedOf x17)).1.2.1, (uFlush w_0 w_1 w_2 ((endR w_2) + 1, (endR w_2) + 1, sortedOf x17)).1.2.2, m45, (mApply t (sortedOf x17)).1, m50⟩, ⟨by (dsimp only; omega), by exact hrr.2.2.2.1, by exact hrr.2.2.2.2.1, by exact hrr.2.2.2.2.2.1, by exact hrr.2.2.2.2.2.2.2, by (dsimp only; omega), w45_0, w50_0⟩, by (dsimp only; omega), ⟨⟨rfl, rfl, rfl, rfl, rfl, rfl, rfl, rfl, rfl, rfl, rfl, rfl, trivial⟩, fun _ h => Inv.sub h [114, 106, 0]⟩⟩
                      · -- FFFFTFTF001
                        refine VI.alloc 153 rfl rfl tz32 (fun _ _ h => Inv.sbK [114, 0] h) (fun g52 => ?_)
                        refine VE.tree [10] (by kernel_rfl) ⟨?_, trivial⟩
                        refine VI.callN 154 rfl rfl (.inl rfl) fnOk31 rfl (fun _ h => Inv.sbK [114, 0] h) (fun W hW => sorted13_ok W (Rd.mono hr17 (hW.at (i := 0) rfl)) bd) (fun v54 m54 hv54 => ?_)
                        obtain ⟨s54_0, rfl, f54_0⟩ := hv54
                        have hfa55 := sorted_up x17
                        obtain ⟨A54_0, c54_0, eq54_0, l54_0, k54_0⟩ := f54_0.slice
                        subst eq54_0
                        simp only [maxLen] at k54_0
                        refine VE.y 11 rfl rfl (.inl rfl) (by kernel_rfl) (.bst (cs := [Value.int .i64 ((endR w_2) + 1), Value.int .i64 ((endR w_2) + 1), Value.slice A54_0 ((sortedOf x17).length) (c54_0)]) rfl tst32 tz32 rfl) ?_
                        refine VE.nil (by kernel_rfl) rfl ?_ rfl
                        refine VO.store (k := 3) (c' := [Value.int .i64 ((endR w_2) + 1), Value.int .i64 ((endR w_2) + 1), Value.slice A54_0 ((sortedOf x17).length) (c54_0)]) 153 rfl rfl (.inl tk32) rfl rfl rfl rfl rfl ?_
                        have hrr := rt_round (y := x17) hz hb hl hT (by omega) (by omega)
                        refine VO.k15 0 1 2 3 9 10 11 12 13 14 28 44 61 65 73 ?_
                        refine outN ?_
                        refine VC.rs ?_
                        refine VO.y rfl (.ldA 153 rfl tk32 rfl (cellsAt_one rfl rfl)) ?_
                        refine VO.callN 156 rfl fnOk17 rfl (fun W hW => runEncode_ok W (mk_Run (m := wm W) ((endR w_2) + 1) ((endR w_2) + 1) (sortedOf x17) bdk bdk (OwnL.rd (Ow.ownl f54_0 rfl mnil) (hW.at (i := 154) rfl) (mle_nil _)))) (fun v56 m56 hv56 => ?_)
                        try dsimp only at hv56
                        obtain ⟨s56_0, rfl, f56_0⟩ := hv56
                        have hfa57 := runEncode_len ((endR w_2) + 1, (endR w_2) + 1, sortedOf x17)
                        obtain ⟨A56_0, c56_0, eq56_0, l56_0, k56_0⟩ := f56_0.slice
                        subst eq56_0
                        simp only [maxLen] at k56_0
                        refine VO.mv ?_
                        refine VO.y rfl (.ext rfl rfl) ?_
                        refine VO.y rfl (.ext rfl rfl) ?_
                        refine VO.as ?_
                        refine VO.as ?_
                        refine VO.kp [156, 154, 153, 106, 114, 0] [(156, m56), (154, m54), (153, mone g52 (.cells [Value.int .i64 ((endR w_2) + 1), Value.int .i64 ((endR w_2) + 1), Value.slice A54_0 ((sortedOf x17).length) (c54_0)].toArray 32 (0, 0))), (106, m21), (114, t_m), (0, wm W)] ?_
                        refine VO.k17 0 1 2 3 9 10 11 12 13 14 15 16 28 44 61 65 73 ?_
                        refine VC.seq ?_
                        refine VC.rs ?_
                        refine VO.mv ?_
                        refine VO.y rfl (.neq rfl rfl) ?_
                        refine VO.k18 0 1 2 3 9 10 11 12 13 14 15 16 28 44 61 65 73 92 ?_
                        refine VC.cond rfl (fun hc58 => ?_) (fun hc58 => ?_)
                        · -- FFFFTFTF001T
                          first | exact absurd rfl hc58 | exact absurd (by decide) hc58 | (refine absurd ?_ hc58; rw [ru0]; done) | exact absurd hrr.1 hc58 | exact absurd (congrArg Prod.snd hrr.2.1) hc58 | exact absurd hrr.2.2.1 hc58 | exact absurd hrr.2.2.2.2.2.2.1 hc58 | (refine absurd ?_ hc58; rw [hrr.2.1]; done) | exact absurd (kq_pull (ku_kq hz.2) (ku_on hz.2)).1 hc58 | exact absurd (kq_start (kq_pull (ku_kq hz.2) (ku_on hz.2)).2.1 (kq_pull (ku_kq hz.2) (ku_on hz.2)).2.2 (by omega) (by omega)).1 hc58 | exact absurd hko.1 hc58 | exact absurd hen hc58 | (refine absurd ?_ hc58; rw [hans]; done) | exact absurd (by rw [hans]) hc58 | (exfalso; omega)
                        · -- FFFFTFTF001F
                          refine VC.skip ?_
                          refine outN ?_
                          refine VC.rs ?_
                          refine VO.mv ?_
                          refine VO.callN 159 rfl fnOk19 rfl (fun W hW => runDecode_ok W (OwnL.rd (Ow.ownl f56_0 rfl mnil) (hW.at (i := 156) rfl) (mle_nil _))) (fun v59 m59 hv59 => ?_)
                          obtain ⟨s59_0, rfl, f59_0⟩ := hv59
                          have hfa60 := runDecode_fits ((runEncode ((endR w_2) + 1, (endR w_2) + 1, sortedOf x17)).1)
                          obtain ⟨q59_0_A2, q59_0_c2, q59_0_n2, rfl, q59_0_S, q59_0_0, q59_0_1, q59_0_2⟩ := openO_Run (x0 := ((runDecode ((runEncode ((endR w_2) + 1, (endR w_2) + 1, sortedOf x17)).1)).1).1) (x1 := ((runDecode ((runEncode ((endR w_2) + 1, (endR w_2) + 1, sortedOf x17)).1)).1).2.1) (x2 := ((runDecode ((runEncode ((endR w_2) + 1, (endR w_2) + 1, sortedOf x17)).1)).1).2.2) f59_0
                          simp only [inK] at q59_0_0
                          simp only [inK] at q59_0_1
                          have q59_0_r2 := q59_0_2.rm
                          refine VO.inv _ (fun _ h => h.parts (i := 159) rfl q59_0_S [161]) ?_
                          refine VO.mv ?_
                          refine VO.y rfl (.ext rfl rfl) ?_
                          refine VO.y rfl (.ext rfl rfl) ?_
                          refine VO.alloc 163 rfl tz32 (fun g62 => ?_)
                          refine VO.store (k := 3) (c' := [Value.int .i64 (((runDecode ((runEncode ((endR w_2) + 1, (endR w_2) + 1, sortedOf x17)).1)).1).1), Value.int .i64 (((runDecode ((runEncode ((endR w_2) + 1, (endR w_2) + 1, sortedOf x17)).1)).1).2.1), Value.slice q59_0_A2 ((((runDecode ((runEncode ((endR w_2) + 1, (endR w_2) + 1, sortedOf x17)).1)).1).2.2).length) (q59_0_c2)]) 163 rfl rfl (.inl tk32) rfl rfl rfl rfl rfl ?_
                          refine VO.as ?_
                          refine VO.k20 0 1 2 3 9 10 11 12 13 14 15 16 17 18 28 44 61 65 73 92 ?_
                          refine VC.rs ?_
                          refine VO.mv ?_
                          refine VO.y rfl (.neq rfl rfl) ?_
                          refine VO.mv ?_
                          refine VO.dec (t := 100) rfl (fun hc64 => ?_) (fun hc64 => ?_)
                          · -- FFFFTFTF001FT
                            first | exact absurd rfl hc64 | exact absurd (by decide) hc64 | (refine absurd ?_ hc64; rw [ru0]; done) | exact absurd hrr.1 hc64 | exact absurd (congrArg Prod.snd hrr.2.1) hc64 | exact absurd hrr.2.2.1 hc64 | exact absurd hrr.2.2.2.2.2.2.1 hc64 | (refine absurd ?_ hc64; rw [hrr.2.1]; done) | exact absurd (kq_pull (ku_kq hz.2) (ku_on hz.2)).1 hc64 | exact absurd (kq_start (kq_pull (ku_kq hz.2) (ku_on hz.2)).2.1 (kq_pull (ku_kq hz.2) (ku_on hz.2)).2.2 (by omega) (by omega)).1 hc64 | exact absurd hko.1 hc64 | exact absurd hen hc64 | (refine absurd ?_ hc64; rw [hans]; done) | exact absurd (by rw [hans]) hc64 | (exfalso; omega)
                          · -- FFFFTFTF001FF
                            refine VO.gy rfl ⟨_, rfl, rfl⟩ (.ldA 153 rfl tk32 rfl (cellsAt_one rfl rfl)) ?_
                            refine VO.gbsl (cs := [Value.int .i64 ((endR w_2) + 1), Value.int .i64 ((endR w_2) + 1), Value.slice A54_0 ((sortedOf x17).length) (c54_0)]) 166 rfl ⟨_, rfl, rfl⟩ rfl tsl47 tz32 rfl rfl (fun g65 => ?_)
                            refine VO.gy rfl ⟨_, rfl, rfl⟩ (.ldA 163 rfl tk32 rfl (cellsAt_one rfl rfl)) ?_
                            refine VO.gbsl (cs := [Value.int .i64 (((runDecode ((runEncode ((endR w_2) + 1, (endR w_2) + 1, sortedOf x17)).1)).1).1), Value.int .i64 (((runDecode ((runEncode ((endR w_2) + 1, (endR w_2) + 1, sortedOf x17)).1)).1).2.1), Value.slice q59_0_A2 ((((runDecode ((runEncode ((endR w_2) + 1, (endR w_2) + 1, sortedOf x17)).1)).1).2.2).length) (q59_0_c2)]) 168 rfl ⟨_, rfl, rfl⟩ rfl tsl47 tz32 rfl rfl (fun g67 => ?_)
                            refine VO.gather (l := [mone g65 (.cells [Value.int .i64 ((endR w_2) + 1), Value.int .i64 ((endR w_2) + 1), Value.slice A54_0 ((sortedOf x17).length) (c54_0)].toArray 32 (0, 0)), m54]) 171 [166, 154] rfl (fun hg70 => ?_)
                            have ho70 : Ow (.sl TRun) (muns [mone g65 (.cells [Value.int .i64 ((endR w_2) + 1), Value.int .i64 ((endR w_2) + 1), Value.slice A54_0 ((sortedOf x17).length) (c54_0)].toArray 32 (0, 0)), m54]) [Value.slice (some ⟨g65, 0, none⟩) (1) (1)] [((endR w_2) + 1, (endR w_2) + 1, sortedOf x17)] := Ow.lit 1 (Seps.grp1 (ls := [[m54]]) hg70) (OwAs.cons (m := muns [m54]) (c1 := [Value.int .i64 ((endR w_2) + 1), Value.int .i64 ((endR w_2) + 1), Value.slice A54_0 ((sortedOf x17).length) (c54_0)]) (mkO_Run ((endR w_2) + 1) ((endR w_2) + 1) (sortedOf x17) (Seps.self hg70 (List.Sublist.cons _ (List.Sublist.cons_cons _ List.Sublist.slnil))) bdk bdk (OwnL.ow (Ow.ownl f54_0 rfl mnil) rfl)) OwAs.nil) rfl rfl
                            refine VO.gather (l := [mone g67 (.cells [Value.int .i64 (((runDecode ((runEncode ((endR w_2) + 1, (endR w_2) + 1, sortedOf x17)).1)).1).1), Value.int .i64 (((runDecode ((runEncode ((endR w_2) + 1, (endR w_2) + 1, sortedOf x17)).1)).1).2.1), Value.slice q59_0_A2 ((((runDecode ((runEncode ((endR w_2) + 1, (endR w_2) + 1, sortedOf x17)).1)).1).2.2).length) (q59_0_c2)].toArray 32 (0, 0)), q59_0_n2]) 173 [168, 161] rfl (fun hg72 => ?_)
                            have ho72 : Ow (.sl TRun) (muns [mone g67 (.cells [Value.int .i64 (((runDecode ((runEncode ((endR w_2) + 1, (endR w_2) + 1, sortedOf x17)).1)).1).1), Value.int .i64 (((runDecode ((runEncode ((endR w_2) + 1, (endR w_2) + 1, sortedOf x17)).1)).1).2.1), Value.slice q59_0_A2 ((((runDecode ((runEncode ((endR w_2) + 1, (endR w_2) + 1, sortedOf x17)).1)).1).2.2).length) (q59_0_c2)].toArray 32 (0, 0)), q59_0_n2]) [Value.slice (some ⟨g67, 0, none⟩) (1) (1)] [((runDecode ((runEncode ((endR w_2) + 1, (endR w_2) + 1, sortedOf x17)).1)).1)] := Ow.lit 1 (Seps.grp1 (ls := [[q59_0_n2]]) hg72) (OwAs.cons (m := muns [q59_0_n2]) (c1 := [Value.int .i64 (((runDecode ((runEncode ((endR w_2) + 1, (endR w_2) + 1, sortedOf x17)).1)).1).1), Value.int .i64 (((runDecode ((runEncode ((endR w_2) + 1, (endR w_2) + 1, sortedOf x17)).1)).1).2.1), Value.slice q59_0_A2 ((((runDecode ((runEncode ((endR w_2) + 1, (endR w_2) + 1, sortedOf x17)).1)).1).2.2).length) (q59_0_c2)]) (show Ow TRun _ _ ((runDecode ((runEncode ((endR w_2) + 1, (endR w_2) + 1, sortedOf x17)).1)).1) from (mkO_Run (((runDecode ((runEncode ((endR w_2) + 1, (endR w_2) + 1, sortedOf x17)).1)).1).1) (((runDecode ((runEncode ((endR w_2) + 1, (endR w_2) + 1, sortedOf x17)).1)).1).2.1) (((runDecode ((runEncode ((endR w_2) + 1, (endR w_2) + 1, sortedOf x17)).1)).1).2.2) (Seps.self hg72 (List.Sublist.cons _ (List.Sublist.cons_cons _ List.Sublist.slnil))) bdk bdk (OwnL.ow (Ow.ownl q59_0_2 rfl mnil) rfl))) OwAs.nil) rfl rfl
                            refine VO.gcallN 169 rfl ⟨_, rfl, rfl⟩ fnOk23 rfl (fun W hW => SameRuns_ok W (Ow.rd ho70 (hW.at (i := 171) rfl)) (Ow.rd ho72 (hW.at (i := 173) rfl))) (fun v69 m69 hv69 => ?_)
                            subst hv69
                            refine VO.parts 171 [166, 154] rfl hg70 ?_
                            refine VO.parts 173 [168, 161] rfl hg72 ?_
                            refine VO.gy rfl ⟨_, rfl, rfl⟩ (.notD rfl) ?_
                            refine VO.y rfl (.pF rfl rfl) ?_
                            refine VO.mv ?_
                            refine VO.dec (t := 108) rfl (fun hc74 => ?_) (fun hc74 => ?_)
                            · -- FFFFTFTF001FFT
                              first | exact absurd rfl hc74 | exact absurd (by decide) hc74 | (refine absurd ?_ hc74; rw [ru0]; done) | exact absurd hrr.1 hc74 | exact absurd (congrArg Prod.snd hrr.2.1) hc74 | exact absurd hrr.2.2.1 hc74 | exact absurd hrr.2.2.2.2.2.2.1 hc74 | (refine absurd ?_ hc74; rw [hrr.2.1]; done) | exact absurd (kq_pull (ku_kq hz.2) (ku_on hz.2)).1 hc74 | exact absurd (kq_start (kq_pull (ku_kq hz.2) (ku_on hz.2)).2.1 (kq_pull (ku_kq hz.2) (ku_on hz.2)).2.2 (by omega) (by omega)).1 hc74 | exact absurd hko.1 hc74 | exact absurd hen hc74 | (refine absurd ?_ hc74; rw [hans]; done) | exact absurd (by rw [hans]) hc74 | (exfalso; omega)
                            · -- FFFFTFTF001FFF
                              refine VO.gy rfl ⟨_, rfl, rfl⟩ (.mv rfl) ?_
                              refine VO.gy rfl ⟨_, rfl, rfl⟩ (.ldA 153 rfl tk32 rfl (cellsAt_one rfl rfl)) ?_
                              refine VO.gcall 106 rfl ⟨_, rfl, rfl⟩ fnOk11 rfl rfl (fun W hW => uFlush_ok W (hW.at (i := 106) rfl) w21_0 (mk_Run (m := mout (wm W) (m21)) ((endR w_2) + 1) ((endR w_2) + 1) (sortedOf x17) bdk bdk (OwnL.rd (Ow.ownl f54_0 rfl mnil) (hW.out (i := 106) (j := 154) rfl rfl) (mle_nil _))) (by assumption) bd (by assumption)) (fun v75 m75 hv75 => ?_)
                              try dsimp only at hv75
                              obtain ⟨rfl, w75_0⟩ := hv75
                              have hfa76 := (flush_ok (br := w_1) (l := w_2) (x := ((endR w_2) + 1, (endR w_2) + 1, sortedOf x17)) (show okD w_0 by assumption))
                              have hfa77 := (flush_w (br := w_1) (l := w_2) (x := ((endR w_2) + 1, (endR w_2) + 1, sortedOf x17)) (show okD w_0 by assumption))
                              have hfa78 := (flush_okU (d := w_0) (br := w_1) (x := ((endR w_2) + 1, (endR w_2) + 1, sortedOf x17)) (show okU w_2 by assumption))
                              refine VO.gy rfl ⟨_, rfl, rfl⟩ (.neq rfl rfl) ?_
                              refine VO.y rfl (.pF rfl rfl) ?_
                              refine VO.mv ?_
                              refine VO.dec (t := 114) rfl (fun hc79 => ?_) (fun hc79 => ?_)
                              · -- FFFFTFTF001FFFT
                                first | exact absurd rfl hc79 | exact absurd (by decide) hc79 | (refine absurd ?_ hc79; rw [ru0]; done) | exact absurd hrr.1 hc79 | exact absurd (congrArg Prod.snd hrr.2.1) hc79 | exact absurd hrr.2.2.1 hc79 | exact absurd hrr.2.2.2.2.2.2.1 hc79 | (refine absurd ?_ hc79; rw [hrr.2.1]; done) | exact absurd (kq_pull (ku_kq hz.2) (ku_on hz.2)).1 hc79 | exact absurd (kq_start (kq_pull (ku_kq hz.2) (ku_on hz.2)).2.1 (kq_pull (ku_kq hz.2) (ku_on hz.2)).2.2 (by omega) (by omega)).1 hc79 | exact absurd hko.1 hc79 | exact absurd hen hc79 | (refine absurd ?_ hc79; rw [hans]; done) | exact absurd (by rw [hans]) hc79 | (exfalso; omega)
                              · -- FFFFTFTF001FFFF
                                refine VO.gy rfl ⟨_, rfl, rfl⟩ (.mv rfl) ?_
                                refine VO.gy rfl ⟨_, rfl, rfl⟩ (.fa rfl tst32 rfl) ?_
                                refine VO.gy rfl ⟨_, rfl, rfl⟩ (.ld1 153 rfl tk30 rfl (cellsAt_one rfl rfl)) ?_
                                refine VO.gcall 114 rfl ⟨_, rfl, rfl⟩ fnOk36 rfl rfl (fun W hW => tApply_ok W (hW.at (i := 114) rfl) h_t (OwnL.rd (Ow.ownl f54_0 rfl mnil) (hW.out (i := 114) (j := 154) rfl rfl) (mle_nil _))) (fun v80 m80 hv80 => ?_)
                                obtain ⟨rfl, w80_0⟩ := hv80
                                refine VO.gy rfl ⟨_, rfl, rfl⟩ (.neq rfl rfl) ?_
                                refine VO.y rfl (.pF rfl rfl) ?_
                                refine VO.kp [114, 106, 161, 154, 163, 156, 153, 0] [(114, m80), (106, m75), (161, q59_0_n2), (154, m54), (163, mone g62 (.cells [Value.int .i64 (((runDecode ((runEncode ((endR w_2) + 1, (endR w_2) + 1, sortedOf x17)).1)).1).1), Value.int .i64 (((runDecode ((runEncode ((endR w_2) + 1, (endR w_2) + 1, sortedOf x17)).1)).1).2.1), Value.slice q59_0_A2 ((((runDecode ((runEncode ((endR w_2) + 1, (endR w_2) + 1, sortedOf x17)).1)).1).2.2).length) (q59_0_c2)].toArray 32 (0, 0))), (156, m56), (153, mone g52 (.cells [Value.int .i64 ((endR w_2) + 1), Value.int .i64 ((endR w_2) + 1), Value.slice A54_0 ((sortedOf x17).length) (c54_0)].toArray 32 (0, 0))), (0, wm W)] ?_
                                refine VO.k21 0 1 2 3 9 10 11 12 13 14 15 16 17 18 28 44 61 65 73 92 120 ?_
                                refine VC.cond rfl (fun hc81 => ?_) (fun hc81 => ?_)
                                · -- FFFFTFTF001FFFFT
                                  first | exact absurd rfl hc81 | exact absurd (by decide) hc81 | (refine absurd ?_ hc81; rw [ru0]; done) | exact absurd hrr.1 hc81 | exact absurd (congrArg Prod.snd hrr.2.1) hc81 | exact absurd hrr.2.2.1 hc81 | exact absurd hrr.2.2.2.2.2.2.1 hc81 | (refine absurd ?_ hc81; rw [hrr.2.1]; done) | exact absurd (kq_pull (ku_kq hz.2) (ku_on hz.2)).1 hc81 | exact absurd (kq_start (kq_pull (ku_kq hz.2) (ku_on hz.2)).2.1 (kq_pull (ku_kq hz.2) (ku_on hz.2)).2.2 (by omega) (by omega)).1 hc81 | exact absurd hko.1 hc81 | exact absurd hen hc81 | (refine absurd ?_ hc81; rw [hans]; done) | exact absurd (by rw [hans]) hc81 | (exfalso; omega)
                                · -- FFFFTFTF001FFFFF
                                  refine VC.skip ?_
                                  refine outBN ?_
                                  refine outN ?_
                                  refine VC.reg ?_
                                  refine VO.mv ?_
                                  refine VO.y rfl (.add (c := ((i + 1 : Nat) : Int)) rfl rfl (by omega) ⟨bd, bd⟩) ?_
                                  refine VO.as ?_
                                  refine VO.k21 0 1 2 3 9 10 11 12 13 14 15 16 17 18 28 44 61 65 73 92 120 ?_
                                  exact outN ⟨⟨i + 1, (uFlush w_0 w_1 w_2 ((endR w_2) + 1, (endR w_2) + 1, sortedOf x17)).1.1, (uFlush w_0 w_1 w_2 ((endR w_2) + 1, (endR w_2) + 1, sortedOf x17)).1.2.1, (uFlush w_0 w_1 w_2 ((endR w_2) + 1, (endR w_2) + 1, sortedOf x17)).1.2.2, m75, (mApply t (sortedOf x17)).1, m80⟩, ⟨by (dsimp only; omega), by exact hrr.2.2.2.1, by exact hrr.2.2.2.2.1, by exact hrr.2.2.2.2.2.1, by exact hrr.2.2.2.2.2.2.2, by (dsimp only; omega), w75_0, w80_0⟩, by (dsimp only; omega), ⟨⟨rfl, rfl, rfl, rfl, rfl, rfl, rfl, rfl, rfl, rfl, rfl, rfl, trivial⟩, fun _ h => Inv.sub h [114, 106, 0]⟩⟩
                    · -- FFFFTFTF01
                      refine VI.alloc 183 rfl rfl tz32 (fun _ _ h => Inv.sbK [114, 0] h) (fun g82 => ?_)
                      refine VE.tree [4] (by kernel_rfl) ⟨?_, trivial⟩
                      refine VI.call 106 rfl rfl (.inl rfl) fnOk28 rfl rfl (fun _ _ h => Inv.sbK [114, 0] h) (fun W hW => uEnd_ok W (hW.at (i := 106) rfl) w20_0 (by assumption)) (fun v84 m84 hv84 => ?_)
                      try dsimp only at hv84
                      obtain ⟨rfl, w84_0⟩ := hv84
                      refine VE.y 5 rfl rfl (.inl rfl) (by kernel_rfl) (.add rfl rfl rfl ⟨bd, bd⟩) ?_
                      refine VE.tree [10] (by kernel_rfl) ⟨?_, trivial⟩
                      refine VI.callN 185 rfl rfl (.inl rfl) fnOk31 rfl (fun _ h => Inv.sbK [114, 0] h) (fun W hW => sorted13_ok W (Rd.mono hr17 (hW.at (i := 0) rfl)) bd) (fun v85 m85 hv85 => ?_)
                      obtain ⟨s85_0, rfl, f85_0⟩ := hv85
                      have hfa86 := sorted_up x17
                      obtain ⟨A85_0, c85_0, eq85_0, l85_0, k85_0⟩ := f85_0.slice
                      subst eq85_0
                      simp only [maxLen] at k85_0
                      refine VE.y 11 rfl rfl (.inl rfl) (by kernel_rfl) (.bst (cs := [Value.int .i64 ((endR w_2) + 1), Value.int .i64 ((endR w_2) + 1), Value.slice A85_0 ((sortedOf x17).length) (c85_0)]) rfl tst32 tz32 rfl) ?_
                      refine VE.nil (by kernel_rfl) rfl ?_ rfl
                      refine VO.store (k := 3) (c' := [Value.int .i64 ((endR w_2) + 1), Value.int .i64 ((endR w_2) + 1), Value.slice A85_0 ((sortedOf x17).length) (c85_0)]) 183 rfl rfl (.inl tk32) rfl rfl rfl rfl rfl ?_
                      have hrr := rt_round (y := x17) hz hb hl hT (by omega) (by omega)
                      refine VO.k15 0 1 2 3 9 10 11 12 13 14 28 44 61 65 73 ?_
                      refine outN ?_
                      refine VC.rs ?_
                      refine VO.y rfl (.ldA 183 rfl tk32 rfl (cellsAt_one rfl rfl)) ?_
                      refine VO.callN 187 rfl fnOk17 rfl (fun W hW => runEncode_ok W (mk_Run (m := wm W) ((endR w_2) + 1) ((endR w_2) + 1) (sortedOf x17) bdk bdk (OwnL.rd (Ow.ownl f85_0 rfl mnil) (hW.at (i := 185) rfl) (mle_nil _)))) (fun v87 m87 hv87 => ?_)
                      try dsimp only at hv87
                      obtain ⟨s87_0, rfl, f87_0⟩ := hv87
                      have hfa88 := runEncode_len ((endR w_2) + 1, (endR w_2) + 1, sortedOf x17)
                      obtain ⟨A87_0, c87_0, eq87_0, l87_0, k87_0⟩ := f87_0.slice
                      subst eq87_0
                      simp only [maxLen] at k87_0
                      refine VO.mv ?_
                      refine VO.y rfl (.ext rfl rfl) ?_
                      refine VO.y rfl (.ext rfl rfl) ?_
                      refine VO.as ?_
                      refine VO.as ?_
                      refine VO.kp [187, 185, 106, 183, 114, 0] [(187, m87), (185, m85), (106, m84), (183, mone g82 (.cells [Value.int .i64 ((endR w_2) + 1), Value.int .i64 ((endR w_2) + 1), Value.slice A85_0 ((sortedOf x17).length) (c85_0)].toArray 32 (0, 0))), (114, t_m), (0, wm W)] ?_
                      refine VO.k17 0 1 2 3 9 10 11 12 13 14 15 16 28 44 61 65 73 ?_
                      refine VC.seq ?_
                      refine VC.rs ?_
                      refine VO.mv ?_
                      refine VO.y rfl (.neq rfl rfl) ?_
                      refine VO.k18 0 1 2 3 9 10 11 12 13 14 15 16 28 44 61 65 73 92 ?_
                      refine VC.cond rfl (fun hc89 => ?_) (fun hc89 => ?_)
                      · -- FFFFTFTF01T
                        first | exact absurd rfl hc89 | exact absurd (by decide) hc89 | (refine absurd ?_ hc89; rw [ru0]; done) | exact absurd hrr.1 hc89 | exact absurd (congrArg Prod.snd hrr.2.1) hc89 | exact absurd hrr.2.2.1 hc89 | exact absurd hrr.2.2.2.2.2.2.1 hc89 | (refine absurd ?_ hc89; rw [hrr.2.1]; done) | exact absurd (kq_pull (ku_kq hz.2) (ku_on hz.2)).1 hc89 | exact absurd (kq_start (kq_pull (ku_kq hz.2) (ku_on hz.2)).2.1 (kq_pull (ku_kq hz.2) (ku_on hz.2)).2.2 (by omega) (by omega)).1 hc89 | exact absurd hko.1 hc89 | exact absurd hen hc89 | (refine absurd ?_ hc89; rw [hans]; done) | exact absurd (by rw [hans]) hc89 | (exfalso; omega)
                      · -- FFFFTFTF01F
                        refine VC.skip ?_
                        refine outN ?_
                        refine VC.rs ?_
                        refine VO.mv ?_
                        refine VO.callN 190 rfl fnOk19 rfl (fun W hW => runDecode_ok W (OwnL.rd (Ow.ownl f87_0 rfl mnil) (hW.at (i := 187) rfl) (mle_nil _))) (fun v90 m90 hv90 => ?_)
                        obtain ⟨s90_0, rfl, f90_0⟩ := hv90
                        have hfa91 := runDecode_fits ((runEncode ((endR w_2) + 1, (endR w_2) + 1, sortedOf x17)).1)
                        obtain ⟨q90_0_A2, q90_0_c2, q90_0_n2, rfl, q90_0_S, q90_0_0, q90_0_1, q90_0_2⟩ := openO_Run (x0 := ((runDecode ((runEncode ((endR w_2) + 1, (endR w_2) + 1, sortedOf x17)).1)).1).1) (x1 := ((runDecode ((runEncode ((endR w_2) + 1, (endR w_2) + 1, sortedOf x17)).1)).1).2.1) (x2 := ((runDecode ((runEncode ((endR w_2) + 1, (endR w_2) + 1, sortedOf x17)).1)).1).2.2) f90_0
                        simp only [inK] at q90_0_0
                        simp only [inK] at q90_0_1
                        have q90_0_r2 := q90_0_2.rm
                        refine VO.inv _ (fun _ h => h.parts (i := 190) rfl q90_0_S [192]) ?_
                        refine VO.mv ?_
                        refine VO.y rfl (.ext rfl rfl) ?_
                        refine VO.y rfl (.ext rfl rfl) ?_
                        refine VO.alloc 194 rfl tz32 (fun g93 => ?_)
                        refine VO.store (k := 3) (c' := [Value.int .i64 (((runDecode ((runEncode ((endR w_2) + 1, (endR w_2) + 1, sortedOf x17)).1)).1).1), Value.int .i64 (((runDecode ((runEncode ((endR w_2) + 1, (endR w_2) + 1, sortedOf x17)).1)).1).2.1), Value.slice q90_0_A2 ((((runDecode ((runEncode ((endR w_2) + 1, (endR w_2) + 1, sortedOf x17)).1)).1).2.2).length) (q90_0_c2)]) 194 rfl rfl (.inl tk32) rfl rfl rfl rfl rfl ?_
                        refine VO.as ?_
                        refine VO.k20 0 1 2 3 9 10 11 12 13 14 15 16 17 18 28 44 61 65 73 92 ?_
                        refine VC.rs ?_
                        refine VO.mv ?_
                        refine VO.y rfl (.neq rfl rfl) ?_
                        refine VO.mv ?_
                        refine VO.dec (t := 100) rfl (fun hc95 => ?_) (fun hc95 => ?_)
                        · -- FFFFTFTF01FT
                          first | exact absurd rfl hc95 | exact absurd (by decide) hc95 | (refine absurd ?_ hc95; rw [ru0]; done) | exact absurd hrr.1 hc95 | exact absurd (congrArg Prod.snd hrr.2.1) hc95 | exact absurd hrr.2.2.1 hc95 | exact absurd hrr.2.2.2.2.2.2.1 hc95 | (refine absurd ?_ hc95; rw [hrr.2.1]; done) | exact absurd (kq_pull (ku_kq hz.2) (ku_on hz.2)).1 hc95 | exact absurd (kq_start (kq_pull (ku_kq hz.2) (ku_on hz.2)).2.1 (kq_pull (ku_kq hz.2) (ku_on hz.2)).2.2 (by omega) (by omega)).1 hc95 | exact absurd hko.1 hc95 | exact absurd hen hc95 | (refine absurd ?_ hc95; rw [hans]; done) | exact absurd (by rw [hans]) hc95 | (exfalso; omega)
                        · -- FFFFTFTF01FF
                          refine VO.gy rfl ⟨_, rfl, rfl⟩ (.ldA 183 rfl tk32 rfl (cellsAt_one rfl rfl)) ?_
                          refine VO.gbsl (cs := [Value.int .i64 ((endR w_2) + 1), Value.int .i64 ((endR w_2) + 1), Value.slice A85_0 ((sortedOf x17).length) (c85_0)]) 197 rfl ⟨_, rfl, rfl⟩ rfl tsl47 tz32 rfl rfl (fun g96 => ?_)
                          refine VO.gy rfl ⟨_, rfl, rfl⟩ (.ldA 194 rfl tk32 rfl (cellsAt_one rfl rfl)) ?_
                          refine VO.gbsl (cs := [Value.int .i64 (((runDecode ((runEncode ((endR w_2) + 1, (endR w_2) + 1, sortedOf x17)).1)).1).1), Value.int .i64 (((runDecode ((runEncode ((endR w_2) + 1, (endR w_2) + 1, sortedOf x17)).1)).1).2.1), Value.slice q90_0_A2 ((((runDecode ((runEncode ((endR w_2) + 1, (endR w_2) + 1, sortedOf x17)).1)).1).2.2).length) (q90_0_c2)]) 199 rfl ⟨_, rfl, rfl⟩ rfl tsl47 tz32 rfl rfl (fun g98 => ?_)
                          refine VO.gather (l := [mone g96 (.cells [Value.int .i64 ((endR w_2) + 1), Value.int .i64 ((endR w_2) + 1), Value.slice A85_0 ((sortedOf x17).length) (c85_0)].toArray 32 (0, 0)), m85]) 202 [197, 185] rfl (fun hg101 => ?_)
                          have ho101 : Ow (.sl TRun) (muns [mone g96 (.cells [Value.int .i64 ((endR w_2) + 1), Value.int .i64 ((endR w_2) + 1), Value.slice A85_0 ((sortedOf x17).length) (c85_0)].toArray 32 (0, 0)), m85]) [Value.slice (some ⟨g96, 0, none⟩) (1) (1)] [((endR w_2) + 1, (endR w_2) + 1, sortedOf x17)] := Ow.lit 1 (Seps.grp1 (ls := [[m85]]) hg101) (OwAs.cons (m := muns [m85]) (c1 := [Value.int .i64 ((endR w_2) + 1), Value.int .i64 ((endR w_2) + 1), Value.slice A85_0 ((sortedOf x17).length) (c85_0)]) (mkO_Run ((endR w_2) + 1) ((endR w_2) + 1) (sortedOf x17) (Seps.self hg101 (List.Sublist.cons _ (List.Sublist.cons_cons _ List.Sublist.slnil))) bdk bdk (OwnL.ow (Ow.ownl f85_0 rfl mnil) rfl)) OwAs.nil) rfl rfl
                          refine VO.gather (l := [mone g98 (.cells [Value.int .i64 (((runDecode ((runEncode ((endR w_2) + 1, (endR w_2) + 1, sortedOf x17)).1)).1).1), Value.int .i64 (((runDecode ((runEncode ((endR w_2) + 1, (endR w_2) + 1, sortedOf x17)).1)).1).2.1), Value.slice q90_0_A2 ((((runDecode ((runEncode ((endR w_2) + 1, (endR w_2) + 1, sortedOf x17)).1)).1).2.2).length) (q90_0_c2)].toArray 32 (0, 0)), q90_0_n2]) 204 [199, 192] rfl (fun hg103 => ?_)
                          have ho103 : Ow (.sl TRun) (muns [mone g98 (.cells [Value.int .i64 (((runDecode ((runEncode ((endR w_2) + 1, (endR w_2) + 1, sortedOf x17)).1)).1).1), Value.int .i64 (((runDecode ((runEncode ((endR w_2) + 1, (endR w_2) + 1, sortedOf x17)).1)).1).2.1), Value.slice q90_0_A2 ((((runDecode ((runEncode ((endR w_2) + 1, (endR w_2) + 1, sortedOf x17)).1)).1).2.2).length) (q90_0_c2)].toArray 32 (0, 0)), q90_0_n2]) [Value.slice (some ⟨g98, 0, none⟩) (1) (1)] [((runDecode ((runEncode ((endR w_2) + 1, (endR w_2) + 1, sortedOf x17)).1)).1)] := Ow.lit 1 (Seps.grp1 (ls := [[q90_0_n2]]) hg103) (OwAs.cons (m := muns [q90_0_n2]) (c1 := [Value.int .i64 (((runDecode ((runEncode ((endR w_2) + 1, (endR w_2) + 1, sortedOf x17)).1)).1).1), Value.int .i64 (((runDecode ((runEncode ((endR w_2) + 1, (endR w_2) + 1, sortedOf x17)).1)).1).2.1), Value.slice q90_0_A2 ((((runDecode ((runEncode ((endR w_2) + 1, (endR w_2) + 1, sortedOf x17)).1)).1).2.2).length) (q90_0_c2)]) (show Ow TRun _ _ ((runDecode ((runEncode ((endR w_2) + 1, (endR w_2) + 1, sortedOf x17)).1)).1) from (mkO_Run (((runDecode ((runEncode ((endR w_2) + 1, (endR w_2) + 1, sortedOf x17)).1)).1).1) (((runDecode ((runEncode ((endR w_2) + 1, (endR w_2) + 1, sortedOf x17)).1)).1).2.1) (((runDecode ((runEncode ((endR w_2) + 1, (endR w_2) + 1, sortedOf x17)).1)).1).2.2) (Seps.self hg103 (List.Sublist.cons _ (List.Sublist.cons_cons _ List.Sublist.slnil))) bdk bdk (OwnL.ow (Ow.ownl q90_0_2 rfl mnil) rfl))) OwAs.nil) rfl rfl
                          refine VO.gcallN 200 rfl ⟨_, rfl, rfl⟩ fnOk23 rfl (fun W hW => SameRuns_ok W (Ow.rd ho101 (hW.at (i := 202) rfl)) (Ow.rd ho103 (hW.at (i := 204) rfl))) (fun v100 m100 hv100 => ?_)
                          subst hv100
                          refine VO.parts 202 [197, 185] rfl hg101 ?_
                          refine VO.parts 204 [199, 192] rfl hg103 ?_
                          refine VO.gy rfl ⟨_, rfl, rfl⟩ (.notD rfl) ?_
                          refine VO.y rfl (.pF rfl rfl) ?_
                          refine VO.mv ?_
                          refine VO.dec (t := 108) rfl (fun hc105 => ?_) (fun hc105 => ?_)
                          · -- FFFFTFTF01FFT
                            first | exact absurd rfl hc105 | exact absurd (by decide) hc105 | (refine absurd ?_ hc105; rw [ru0]; done) | exact absurd hrr.1 hc105 | exact absurd (congrArg Prod.snd hrr.2.1) hc105 | exact absurd hrr.2.2.1 hc105 | exact absurd hrr.2.2.2.2.2.2.1 hc105 | (refine absurd ?_ hc105; rw [hrr.2.1]; done) | exact absurd (kq_pull (ku_kq hz.2) (ku_on hz.2)).1 hc105 | exact absurd (kq_start (kq_pull (ku_kq hz.2) (ku_on hz.2)).2.1 (kq_pull (ku_kq hz.2) (ku_on hz.2)).2.2 (by omega) (by omega)).1 hc105 | exact absurd hko.1 hc105 | exact absurd hen hc105 | (refine absurd ?_ hc105; rw [hans]; done) | exact absurd (by rw [hans]) hc105 | (exfalso; omega)
                          · -- FFFFTFTF01FFF
                            refine VO.gy rfl ⟨_, rfl, rfl⟩ (.mv rfl) ?_
                            refine VO.gy rfl ⟨_, rfl, rfl⟩ (.ldA 183 rfl tk32 rfl (cellsAt_one rfl rfl)) ?_
                            refine VO.gcall 106 rfl ⟨_, rfl, rfl⟩ fnOk11 rfl rfl (fun W hW => uFlush_ok W (hW.at (i := 106) rfl) w84_0 (mk_Run (m := mout (wm W) (m84)) ((endR w_2) + 1) ((endR w_2) + 1) (sortedOf x17) bdk bdk (OwnL.rd (Ow.ownl f85_0 rfl mnil) (hW.out (i := 106) (j := 185) rfl rfl) (mle_nil _))) (by assumption) bd (by assumption)) (fun v106 m106 hv106 => ?_)
                            try dsimp only at hv106
                            obtain ⟨rfl, w106_0⟩ := hv106
                            have hfa107 := (flush_ok (br := w_1) (l := w_2) (x := ((endR w_2) + 1, (endR w_2) + 1, sortedOf x17)) (show okD w_0 by assumption))
                            have hfa108 := (flush_w (br := w_1) (l := w_2) (x := ((endR w_2) + 1, (endR w_2) + 1, sortedOf x17)) (show okD w_0 by assumption))
                            have hfa109 := (flush_okU (d := w_0) (br := w_1) (x := ((endR w_2) + 1, (endR w_2) + 1, sortedOf x17)) (show okU w_2 by assumption))
                            refine VO.gy rfl ⟨_, rfl, rfl⟩ (.neq rfl rfl) ?_
                            refine VO.y rfl (.pF rfl rfl) ?_
                            refine VO.mv ?_
                            refine VO.dec (t := 114) rfl (fun hc110 => ?_) (fun hc110 => ?_)
                            · -- FFFFTFTF01FFFT
                              first | exact absurd rfl hc110 | exact absurd (by decide) hc110 | (refine absurd ?_ hc110; rw [ru0]; done) | exact absurd hrr.1 hc110 | exact absurd (congrArg Prod.snd hrr.2.1) hc110 | exact absurd hrr.2.2.1 hc110 | exact absurd hrr.2.2.2.2.2.2.1 hc110 | (refine absurd ?_ hc110; rw [hrr.2.1]; done) | exact absurd (kq_pull (ku_kq hz.2) (ku_on hz.2)).1 hc110 | exact absurd (kq_start (kq_pull (ku_kq hz.2) (ku_on hz.2)).2.1 (kq_pull (ku_kq hz.2) (ku_on hz.2)).2.2 (by omega) (by omega)).1 hc110 | exact absurd hko.1 hc110 | exact absurd hen hc110 | (refine absurd ?_ hc110; rw [hans]; done) | exact absurd (by rw [hans]) hc110 | (exfalso; omega)
                            · -- FFFFTFTF01FFFF
                              refine VO.gy rfl ⟨_, rfl, rfl⟩ (.mv rfl) ?_
                              refine VO.gy rfl ⟨_, rfl, rfl⟩ (.fa rfl tst32 rfl) ?_
                              refine VO.gy rfl ⟨_, rfl, rfl⟩ (.ld1 183 rfl tk30 rfl (cellsAt_one rfl rfl)) ?_
                              refine VO.gcall 114 rfl ⟨_, rfl, rfl⟩ fnOk36 rfl rfl (fun W hW => tApply_ok W (hW.at (i := 114) rfl) h_t (OwnL.rd (Ow.ownl f85_0 rfl mnil) (hW.out (i := 114) (j := 185) rfl rfl) (mle_nil _))) (fun v111 m111 hv111 => ?_)
                              obtain ⟨rfl, w111_0⟩ := hv111
                              refine VO.gy rfl ⟨_, rfl, rfl⟩ (.neq rfl rfl) ?_
                              refine VO.y rfl (.pF rfl rfl) ?_
                              refine VO.kp [114, 106, 192, 185, 194, 187, 183, 0] [(114, m111), (106, m106), (192, q90_0_n2), (185, m85), (194, mone g93 (.cells [Value.int .i64 (((runDecode ((runEncode ((endR w_2) + 1, (endR w_2) + 1, sortedOf x17)).1)).1).1), Value.int .i64 (((runDecode ((runEncode ((endR w_2) + 1, (endR w_2) + 1, sortedOf x17)).1)).1).2.1), Value.slice q90_0_A2 ((((runDecode ((runEncode ((endR w_2) + 1, (endR w_2) + 1, sortedOf x17)).1)).1).2.2).length) (q90_0_c2)].toArray 32 (0, 0))), (187, m87), (183, mone g82 (.cells [Value.int .i64 ((endR w_2) + 1), Value.int .i64 ((endR w_2) + 1), Value.slice A85_0 ((sortedOf x17).length) (c85_0)].toArray 32 (0, 0))), (0, wm W)] ?_
                              refine VO.k21 0 1 2 3 9 10 11 12 13 14 15 16 17 18 28 44 61 65 73 92 120 ?_
                              refine VC.cond rfl (fun hc112 => ?_) (fun hc112 => ?_)
                              · -- FFFFTFTF01FFFFT
                                first | exact absurd rfl hc112 | exact absurd (by decide) hc112 | (refine absurd ?_ hc112; rw [ru0]; done) | exact absurd hrr.1 hc112 | exact absurd (congrArg Prod.snd hrr.2.1) hc112 | exact absurd hrr.2.2.1 hc112 | exact absurd hrr.2.2.2.2.2.2.1 hc112 | (refine absurd ?_ hc112; rw [hrr.2.1]; done) | exact absurd (kq_pull (ku_kq hz.2) (ku_on hz.2)).1 hc112 | exact absurd (kq_start (kq_pull (ku_kq hz.2) (ku_on hz.2)).2.1 (kq_pull (ku_kq hz.2) (ku_on hz.2)).2.2 (by omega) (by omega)).1 hc112 | exact absurd hko.1 hc112 | exact absurd hen hc112 | (refine absurd ?_ hc112; rw [hans]; done) | exact absurd (by rw [hans]) hc112 | (exfalso; omega)
                              · -- FFFFTFTF01FFFFF
                                refine VC.skip ?_
                                refine outBN ?_
                                refine outN ?_
                                refine VC.reg ?_
                                refine VO.mv ?_
                                refine VO.y rfl (.add (c := ((i + 1 : Nat) : Int)) rfl rfl (by omega) ⟨bd, bd⟩) ?_
                                refine VO.as ?_
                                refine VO.k21 0 1 2 3 9 10 11 12 13 14 15 16 17 18 28 44 61 65 73 92 120 ?_
                                exact outN ⟨⟨i + 1, (uFlush w_0 w_1 w_2 ((endR w_2) + 1, (endR w_2) + 1, sortedOf x17)).1.1, (uFlush w_0 w_1 w_2 ((endR w_2) + 1, (endR w_2) + 1, sortedOf x17)).1.2.1, (uFlush w_0 w_1 w_2 ((endR w_2) + 1, (endR w_2) + 1, sortedOf x17)).1.2.2, m106, (mApply t (sortedOf x17)).1, m111⟩, ⟨by (dsimp only; omega), by exact hrr.2.2.2.1, by exact hrr.2.2.2.2.1, by exact hrr.2.2.2.2.2.1, by exact hrr.2.2.2.2.2.2.2, by (dsimp only; omega), w106_0, w111_0⟩, by (dsimp only; omega), ⟨⟨rfl, rfl, rfl, rfl, rfl, rfl, rfl, rfl, rfl, rfl, rfl, rfl, trivial⟩, fun _ h => Inv.sub h [114, 106, 0]⟩⟩
                  · -- FFFFTFTF1
                    refine VI.alloc 214 rfl rfl tz32 (fun _ _ h => Inv.sbK [114, 0] h) (fun g113 => ?_)
                    refine VE.tree [1] (by kernel_rfl) ⟨?_, trivial⟩
                    refine VI.call 106 rfl rfl (.inl rfl) fnOk28 rfl rfl (fun _ _ h => Inv.sbK [114, 0] h) (fun W hW => uEnd_ok W (hW.at (i := 106) rfl) h_w (by assumption)) (fun v115 m115 hv115 => ?_)
                    try dsimp only at hv115
                    obtain ⟨rfl, w115_0⟩ := hv115
                    refine VE.y 2 rfl rfl (.inl rfl) (by kernel_rfl) (.add rfl rfl rfl ⟨bd, bd⟩) ?_
                    refine VE.tree [4] (by kernel_rfl) ⟨?_, trivial⟩
                    refine VI.call 106 rfl rfl (.inl rfl) fnOk28 rfl rfl (fun _ _ h => Inv.sbK [114, 0] h) (fun W hW => uEnd_ok W (hW.at (i := 106) rfl) w115_0 (by assumption)) (fun v116 m116 hv116 => ?_)
                    try dsimp only at hv116
                    obtain ⟨rfl, w116_0⟩ := hv116
                    refine VE.y 5 rfl rfl (.inl rfl) (by kernel_rfl) (.add rfl rfl rfl ⟨bd, bd⟩) ?_
                    refine VE.tree [10] (by kernel_rfl) ⟨?_, trivial⟩
                    refine VI.callN 217 rfl rfl (.inl rfl) fnOk31 rfl (fun _ h => Inv.sbK [114, 0] h) (fun W hW => sorted13_ok W (Rd.mono hr17 (hW.at (i := 0) rfl)) bd) (fun v117 m117 hv117 => ?_)
                    obtain ⟨s117_0, rfl, f117_0⟩ := hv117
                    have hfa118 := sorted_up x17
                    obtain ⟨A117_0, c117_0, eq117_0, l117_0, k117_0⟩ := f117_0.slice
                    subst eq117_0
                    simp only [maxLen] at k117_0
                    refine VE.y 11 rfl rfl (.inl rfl) (by kernel_rfl) (.bst (cs := [Value.int .i64 ((endR w_2) + 1), Value.int .i64 ((endR w_2) + 1), Value.slice A117_0 ((sortedOf x17).length) (c117_0)]) rfl tst32 tz32 rfl) ?_
                    refine VE.nil (by kernel_rfl) rfl ?_ rfl
                    refine VO.store (k := 3) (c' := [Value.int .i64 ((endR w_2) + 1), Value.int .i64 ((endR w_2) + 1), Value.slice A117_0 ((sortedOf x17).length) (c117_0)]) 214 rfl rfl (.inl tk32) rfl rfl rfl rfl rfl ?_
                    have hrr := rt_round (y := x17) hz hb hl hT (by omega) (by omega)
                    refine VO.k15 0 1 2 3 9 10 11 12 13 14 28 44 61 65 73 ?_
                    refine outN ?_
                    refine VC.rs ?_
                    refine VO.y rfl (.ldA 214 rfl tk32 rfl (cellsAt_one rfl rfl)) ?_
                    refine VO.callN 219 rfl fnOk17 rfl (fun W hW => runEncode_ok W (mk_Run (m := wm W) ((endR w_2) + 1) ((endR w_2) + 1) (sortedOf x17) bdk bdk (OwnL.rd (Ow.ownl f117_0 rfl mnil) (hW.at (i := 217) rfl) (mle_nil _)))) (fun v119 m119 hv119 => ?_)
                    try dsimp only at hv119
                    obtain ⟨s119_0, rfl, f119_0⟩ := hv119
                    have hfa120 := runEncode_len ((endR w_2) + 1, (endR w_2) + 1, sortedOf x17)
                    obtain ⟨A119_0, c119_0, eq119_0, l119_0, k119_0⟩ := f119_0.slice
                    subst eq119_0
                    simp only [maxLen] at k119_0
                    refine VO.mv ?_
                    refine VO.y rfl (.ext rfl rfl) ?_
                    refine VO.y rfl (.ext rfl rfl) ?_
                    refine VO.as ?_
                    refine VO.as ?_
                    refine VO.kp [219, 217, 106, 214, 114, 0] [(219, m119), (217, m117), (106, m116), (214, mone g113 (.cells [Value.int .i64 ((endR w_2) + 1), Value.int .i64 ((endR w_2) + 1), Value.slice A117_0 ((sortedOf x17).length) (c117_0)].toArray 32 (0, 0))), (114, t_m), (0, wm W)] ?_
                    refine VO.k17 0 1 2 3 9 10 11 12 13 14 15 16 28 44 61 65 73 ?_
                    refine VC.seq ?_
                    refine VC.rs ?_
                    refine VO.mv ?_
                    refine VO.y rfl (.neq rfl rfl) ?_
                    refine VO.k18 0 1 2 3 9 10 11 12 13 14 15 16 28 44 61 65 73 92 ?_
                    refine VC.cond rfl (fun hc121 => ?_) (fun hc121 => ?_)
                    · -- FFFFTFTF1T
                      first | exact absurd rfl hc121 | exact absurd (by decide) hc121 | (refine absurd ?_ hc121; rw [ru0]; done) | exact absurd hrr.1 hc121 | exact absurd (congrArg Prod.snd hrr.2.1) hc121 | exact absurd hrr.2.2.1 hc121 | exact absurd hrr.2.2.2.2.2.2.1 hc121 | (refine absurd ?_ hc121; rw [hrr.2.1]; done) | exact absurd (kq_pull (ku_kq hz.2) (ku_on hz.2)).1 hc121 | exact absurd (kq_start (kq_pull (ku_kq hz.2) (ku_on hz.2)).2.1 (kq_pull (ku_kq hz.2) (ku_on hz.2)).2.2 (by omega) (by omega)).1 hc121 | exact absurd hko.1 hc121 | exact absurd hen hc121 | (refine absurd ?_ hc121; rw [hans]; done) | exact absurd (by rw [hans]) hc121 | (exfalso; omega)
                    · -- FFFFTFTF1F
                      refine VC.skip ?_
                      refine outN ?_
                      refine VC.rs ?_
                      refine VO.mv ?_
                      refine VO.callN 222 rfl fnOk19 rfl (fun W hW => runDecode_ok W (OwnL.rd (Ow.ownl f119_0 rfl mnil) (hW.at (i := 219) rfl) (mle_nil _))) (fun v122 m122 hv122 => ?_)
                      obtain ⟨s122_0, rfl, f122_0⟩ := hv122
                      have hfa123 := runDecode_fits ((runEncode ((endR w_2) + 1, (endR w_2) + 1, sortedOf x17)).1)
                      obtain ⟨q122_0_A2, q122_0_c2, q122_0_n2, rfl, q122_0_S, q122_0_0, q122_0_1, q122_0_2⟩ := openO_Run (x0 := ((runDecode ((runEncode ((endR w_2) + 1, (endR w_2) + 1, sortedOf x17)).1)).1).1) (x1 := ((runDecode ((runEncode ((endR w_2) + 1, (endR w_2) + 1, sortedOf x17)).1)).1).2.1) (x2 := ((runDecode ((runEncode ((endR w_2) + 1, (endR w_2) + 1, sortedOf x17)).1)).1).2.2) f122_0
                      simp only [inK] at q122_0_0
                      simp only [inK] at q122_0_1
                      have q122_0_r2 := q122_0_2.rm
                      refine VO.inv _ (fun _ h => h.parts (i := 222) rfl q122_0_S [224]) ?_
                      refine VO.mv ?_
                      refine VO.y rfl (.ext rfl rfl) ?_
                      refine VO.y rfl (.ext rfl rfl) ?_
                      refine VO.alloc 226 rfl tz32 (fun g125 => ?_)
                      refine VO.store (k := 3) (c' := [Value.int .i64 (((runDecode ((runEncode ((endR w_2) + 1, (endR w_2) + 1, sortedOf x17)).1)).1).1), Value.int .i64 (((runDecode ((runEncode ((endR w_2) + 1, (endR w_2) + 1, sortedOf x17)).1)).1).2.1), Value.slice q122_0_A2 ((((runDecode ((runEncode ((endR w_2) + 1, (endR w_2) + 1, sortedOf x17)).1)).1).2.2).length) (q122_0_c2)]) 226 rfl rfl (.inl tk32) rfl rfl rfl rfl rfl ?_
                      refine VO.as ?_
                      refine VO.k20 0 1 2 3 9 10 11 12 13 14 15 16 17 18 28 44 61 65 73 92 ?_
                      refine VC.rs ?_
                      refine VO.mv ?_
                      refine VO.y rfl (.neq rfl rfl) ?_
                      refine VO.mv ?_
                      refine VO.dec (t := 100) rfl (fun hc127 => ?_) (fun hc127 => ?_)
                      · -- FFFFTFTF1FT
                        first | exact absurd rfl hc127 | exact absurd (by decide) hc127 | (refine absurd ?_ hc127; rw [ru0]; done) | exact absurd hrr.1 hc127 | exact absurd (congrArg Prod.snd hrr.2.1) hc127 | exact absurd hrr.2.2.1 hc127 | exact absurd hrr.2.2.2.2.2.2.1 hc127 | (refine absurd ?_ hc127; rw [hrr.2.1]; done) | exact absurd (kq_pull (ku_kq hz.2) (ku_on hz.2)).1 hc127 | exact absurd (kq_start (kq_pull (ku_kq hz.2) (ku_on hz.2)).2.1 (kq_pull (ku_kq hz.2) (ku_on hz.2)).2.2 (by omega) (by omega)).1 hc127 | exact absurd hko.1 hc127 | exact absurd hen hc127 | (refine absurd ?_ hc127; rw [hans]; done) | exact absurd (by rw [hans]) hc127 | (exfalso; omega)
                      · -- FFFFTFTF1FF
                        refine VO.gy rfl ⟨_, rfl, rfl⟩ (.ldA 214 rfl tk32 rfl (cellsAt_one rfl rfl)) ?_
                        refine VO.gbsl (cs := [Value.int .i64 ((endR w_2) + 1), Value.int .i64 ((endR w_2) + 1), Value.slice A117_0 ((sortedOf x17).length) (c117_0)]) 229 rfl ⟨_, rfl, rfl⟩ rfl tsl47 tz32 rfl rfl (fun g128 => ?_)
                        refine VO.gy rfl ⟨_, rfl, rfl⟩ (.ldA 226 rfl tk32 rfl (cellsAt_one rfl rfl)) ?_
                        refine VO.gbsl (cs := [Value.int .i64 (((runDecode ((runEncode ((endR w_2) + 1, (endR w_2) + 1, sortedOf x17)).1)).1).1), Value.int .i64 (((runDecode ((runEncode ((endR w_2) + 1, (endR w_2) + 1, sortedOf x17)).1)).1).2.1), Value.slice q122_0_A2 ((((runDecode ((runEncode ((endR w_2) + 1, (endR w_2) + 1, sortedOf x17)).1)).1).2.2).length) (q122_0_c2)]) 231 rfl ⟨_, rfl, rfl⟩ rfl tsl47 tz32 rfl rfl (fun g130 => ?_)
                        refine VO.gather (l := [mone g128 (.cells [Value.int .i64 ((endR w_2) + 1), Value.int .i64 ((endR w_2) + 1), Value.slice A117_0 ((sortedOf x17).length) (c117_0)].toArray 32 (0, 0)), m117]) 234 [229, 217] rfl (fun hg133 => ?_)
                        have ho133 : Ow (.sl TRun) (muns [mone g128 (.cells [Value.int .i64 ((endR w_2) + 1), Value.int .i64 ((endR w_2) + 1), Value.slice A117_0 ((sortedOf x17).length) (c117_0)].toArray 32 (0, 0)), m117]) [Value.slice (some ⟨g128, 0, none⟩) (1) (1)] [((endR w_2) + 1, (endR w_2) + 1, sortedOf x17)] := Ow.lit 1 (Seps.grp1 (ls := [[m117]]) hg133) (OwAs.cons (m := muns [m117]) (c1 := [Value.int .i64 ((endR w_2) + 1), Value.int .i64 ((endR w_2) + 1), Value.slice A117_0 ((sortedOf x17).length) (c117_0)]) (mkO_Run ((endR w_2) + 1) ((endR w_2) + 1) (sortedOf x17) (Seps.self hg133 (List.Sublist.cons _ (List.Sublist.cons_cons _ List.Sublist.slnil))) bdk bdk (OwnL.ow (Ow.ownl f117_0 rfl mnil) rfl)) OwAs.nil) rfl rfl
                        refine VO.gather (l := [mone g130 (.cells [Value.int .i64 (((runDecode ((runEncode ((endR w_2) + 1, (endR w_2) + 1, sortedOf x17)).1)).1).1), Value.int .i64 (((runDecode ((runEncode ((endR w_2) + 1, (endR w_2) + 1, sortedOf x17)).1)).1).2.1), Value.slice q122_0_A2 ((((runDecode ((runEncode ((endR w_2) + 1, (endR w_2) + 1, sortedOf x17)).1)).1).2.2).length) (q122_0_c2)].toArray 32 (0, 0)), q122_0_n2]) 236 [231, 224] rfl (fun hg135 => ?_)
                        have ho135 : Ow (.sl TRun) (muns [mone g130 (.cells [Value.int .i64 (((runDecode ((runEncode ((endR w_2) + 1, (endR w_2) + 1, sortedOf x17)).1)).1).1), Value.int .i64 (((runDecode ((runEncode ((endR w_2) + 1, (endR w_2) + 1, sortedOf x17)).1)).1).2.1), Value.slice q122_0_A2 ((((runDecode ((runEncode ((endR w_2) + 1, (endR w_2) + 1, sortedOf x17)).1)).1).2.2).length) (q122_0_c2)].toArray 32 (0, 0)), q122_0_n2]) [Value.slice (some ⟨g130, 0, none⟩) (1) (1)] [((runDecode ((runEncode ((endR w_2) + 1, (endR w_2) + 1, sortedOf x17)).1)).1)] := Ow.lit 1 (Seps.grp1 (ls := [[q122_0_n2]]) hg135) (OwAs.cons (m := muns [q122_0_n2]) (c1 := [Value.int .i64 (((runDecode ((runEncode ((endR w_2) + 1, (endR w_2) + 1, sortedOf x17)).1)).1).1), Value.int .i64 (((runDecode ((runEncode ((endR w_2) + 1, (endR w_2) + 1, sortedOf x17)).1)).1).2.1), Value.slice q122_0_A2 ((((runDecode ((runEncode ((endR w_2) + 1, (endR w_2) + 1, sortedOf x17)).1)).1).2.2).length) (q122_0_c2)]) (show Ow TRun _ _ ((runDecode ((runEncode ((endR w_2) + 1, (endR w_2) + 1, sortedOf x17)).1)).1) from (mkO_Run (((runDecode ((runEncode ((endR w_2) + 1, (endR w_2) + 1, sortedOf x17)).1)).1).1) (((runDecode ((runEncode ((endR w_2) + 1, (endR w_2) + 1, sortedOf x17)).1)).1).2.1) (((runDecode ((runEncode ((endR w_2) + 1, (endR w_2) + 1, sortedOf x17)).1)).1).2.2) (Seps.self hg135 (List.Sublist.cons _ (List.Sublist.cons_cons _ List.Sublist.slnil))) bdk bdk (OwnL.ow (Ow.ownl q122_0_2 rfl mnil) rfl))) OwAs.nil) rfl rfl
                        refine VO.gcallN 232 rfl ⟨_, rfl, rfl⟩ fnOk23 rfl (fun W hW => SameRuns_ok W (Ow.rd ho133 (hW.at (i := 234) rfl)) (Ow.rd ho135 (hW.at (i := 236) rfl))) (fun v132 m132 hv132 => ?_)
                        subst hv132
                        refine VO.parts 234 [229, 217] rfl hg133 ?_
                        refine VO.parts 236 [231, 224] rfl hg135 ?_
                        refine VO.gy rfl ⟨_, rfl, rfl⟩ (.notD rfl) ?_
                        refine VO.y rfl (.pF rfl rfl) ?_
                        refine VO.mv ?_
                        refine VO.dec (t := 108) rfl (fun hc137 => ?_) (fun hc137 => ?_)
                        · -- FFFFTFTF1FFT
                          first | exact absurd rfl hc137 | exact absurd (by decide) hc137 | (refine absurd ?_ hc137; rw [ru0]; done) | exact absurd hrr.1 hc137 | exact absurd (congrArg Prod.snd hrr.2.1) hc137 | exact absurd hrr.2.2.1 hc137 | exact absurd hrr.2.2.2.2.2.2.1 hc137 | (refine absurd ?_ hc137; rw [hrr.2.1]; done) | exact absurd (kq_pull (ku_kq hz.2) (ku_on hz.2)).1 hc137 | exact absurd (kq_start (kq_pull (ku_kq hz.2) (ku_on hz.2)).2.1 (kq_pull (ku_kq hz.2) (ku_on hz.2)).2.2 (by omega) (by omega)).1 hc137 | exact absurd hko.1 hc137 | exact absurd hen hc137 | (refine absurd ?_ hc137; rw [hans]; done) | exact absurd (by rw [hans]) hc137 | (exfalso; omega)
                        · -- FFFFTFTF1FFF
                          refine VO.gy rfl ⟨_, rfl, rfl⟩ (.mv rfl) ?_
                          refine VO.gy rfl ⟨_, rfl, rfl⟩ (.ldA 214 rfl tk32 rfl (cellsAt_one rfl rfl)) ?_
                          refine VO.gcall 106 rfl ⟨_, rfl, rfl⟩ fnOk11 rfl rfl (fun W hW => uFlush_ok W (hW.at (i := 106) rfl) w116_0 (mk_Run (m := mout (wm W) (m116)) ((endR w_2) + 1) ((endR w_2) + 1) (sortedOf x17) bdk bdk (OwnL.rd (Ow.ownl f117_0 rfl mnil) (hW.out (i := 106) (j := 217) rfl rfl) (mle_nil _))) (by assumption) bd (by assumption)) (fun v138 m138 hv138 => ?_)
                          try dsimp only at hv138
                          obtain ⟨rfl, w138_0⟩ := hv138
                          have hfa139 := (flush_ok (br := w_1) (l := w_2) (x := ((endR w_2) + 1, (endR w_2) + 1, sortedOf x17)) (show okD w_0 by assumption))
                          have hfa140 := (flush_w (br := w_1) (l := w_2) (x := ((endR w_2) + 1, (endR w_2) + 1, sortedOf x17)) (show okD w_0 by assumption))
                          have hfa141 := (flush_okU (d := w_0) (br := w_1) (x := ((endR w_2) + 1, (endR w_2) + 1, sortedOf x17)) (show okU w_2 by assumption))
                          refine VO.gy rfl ⟨_, rfl, rfl⟩ (.neq rfl rfl) ?_
                          refine VO.y rfl (.pF rfl rfl) ?_
                          refine VO.mv ?_
                          refine VO.dec (t := 114) rfl (fun hc142 => ?_) (fun hc142 => ?_)
                          · -- FFFFTFTF1FFFT
                            first | exact absurd rfl hc142 | exact absurd (by decide) hc142 | (refine absurd ?_ hc142; rw [ru0]; done) | exact absurd hrr.1 hc142 | exact absurd (congrArg Prod.snd hrr.2.1) hc142 | exact absurd hrr.2.2.1 hc142 | exact absurd hrr.2.2.2.2.2.2.1 hc142 | (refine absurd ?_ hc142; rw [hrr.2.1]; done) | exact absurd (kq_pull (ku_kq hz.2) (ku_on hz.2)).1 hc142 | exact absurd (kq_start (kq_pull (ku_kq hz.2) (ku_on hz.2)).2.1 (kq_pull (ku_kq hz.2) (ku_on hz.2)).2.2 (by omega) (by omega)).1 hc142 | exact absurd hko.1 hc142 | exact absurd hen hc142 | (refine absurd ?_ hc142; rw [hans]; done) | exact absurd (by rw [hans]) hc142 | (exfalso; omega)
                          · -- FFFFTFTF1FFFF
                            refine VO.gy rfl ⟨_, rfl, rfl⟩ (.mv rfl) ?_
                            refine VO.gy rfl ⟨_, rfl, rfl⟩ (.fa rfl tst32 rfl) ?_
                            refine VO.gy rfl ⟨_, rfl, rfl⟩ (.ld1 214 rfl tk30 rfl (cellsAt_one rfl rfl)) ?_
                            refine VO.gcall 114 rfl ⟨_, rfl, rfl⟩ fnOk36 rfl rfl (fun W hW => tApply_ok W (hW.at (i := 114) rfl) h_t (OwnL.rd (Ow.ownl f117_0 rfl mnil) (hW.out (i := 114) (j := 217) rfl rfl) (mle_nil _))) (fun v143 m143 hv143 => ?_)
                            obtain ⟨rfl, w143_0⟩ := hv143
                            refine VO.gy rfl ⟨_, rfl, rfl⟩ (.neq rfl rfl) ?_
                            refine VO.y rfl (.pF rfl rfl) ?_
                            refine VO.kp [114, 106, 224, 217, 226, 219, 214, 0] [(114, m143), (106, m138), (224, q122_0_n2), (217, m117), (226, mone g125 (.cells [Value.int .i64 (((runDecode ((runEncode ((endR w_2) + 1, (endR w_2) + 1, sortedOf x17)).1)).1).1), Value.int .i64 (((runDecode ((runEncode ((endR w_2) + 1, (endR w_2) + 1, sortedOf x17)).1)).1).2.1), Value.slice q122_0_A2 ((((runDecode ((runEncode ((endR w_2) + 1, (endR w_2) + 1, sortedOf x17)).1)).1).2.2).length) (q122_0_c2)].toArray 32 (0, 0))), (219, m119), (214, mone g113 (.cells [Value.int .i64 ((endR w_2) + 1), Value.int .i64 ((endR w_2) + 1), Value.slice A117_0 ((sortedOf x17).length) (c117_0)].toArray 32 (0, 0))), (0, wm W)] ?_
                            refine VO.k21 0 1 2 3 9 10 11 12 13 14 15 16 17 18 28 44 61 65 73 92 120 ?_
                            refine VC.cond rfl (fun hc144 => ?_) (fun hc144 => ?_)
                            · -- FFFFTFTF1FFFFT
                              first | exact absurd rfl hc144 | exact absurd (by decide) hc144 | (refine absurd ?_ hc144; rw [ru0]; done) | exact absurd hrr.1 hc144 | exact absurd (congrArg Prod.snd hrr.2.1) hc144 | exact absurd hrr.2.2.1 hc144 | exact absurd hrr.2.2.2.2.2.2.1 hc144 | (refine absurd ?_ hc144; rw [hrr.2.1]; done) | exact absurd (kq_pull (ku_kq hz.2) (ku_on hz.2)).1 hc144 | exact absurd (kq_start (kq_pull (ku_kq hz.2) (ku_on hz.2)).2.1 (kq_pull (ku_kq hz.2) (ku_on hz.2)).2.2 (by omega) (by omega)).1 hc144 | exact absurd hko.1 hc144 | exact absurd hen hc144 | (refine absurd ?_ hc144; rw [hans]; done) | exact absurd (by rw [hans]) hc144 | (exfalso; omega)
                            · -- FFFFTFTF1FFFFF
                              refine VC.skip ?_
                              refine outBN ?_
                              refine outN ?_
                              refine VC.reg ?_
                              refine VO.mv ?_
                              refine VO.y rfl (.add (c := ((i + 1 : Nat) : Int)) rfl rfl (by omega) ⟨bd, bd⟩) ?_
                              refine VO.as ?_
                              refine VO.k21 0 1 2 3 9 10 11 12 13 14 15 16 17 18 28 44 61 65 73 92 120 ?_
                              exact outN ⟨⟨i + 1, (uFlush w_0 w_1 w_2 ((endR w_2) + 1, (endR w_2) + 1, sortedOf x17)).1.1, (uFlush w_0 w_1 w_2 ((endR w_2) + 1, (endR w_2) + 1, sortedOf x17)).1.2.1, (uFlush w_0 w_1 w_2 ((endR w_2) + 1, (endR w_2) + 1, sortedOf x17)).1.2.2, m138, (mApply t (sortedOf x17)).1, m143⟩, ⟨by (dsimp only; omega), by exact hrr.2.2.2.1, by exact hrr.2.2.2.2.1, by exact hrr.2.2.2.2.2.1, by exact hrr.2.2.2.2.2.2.2, by (dsimp only; omega), w138_0, w143_0⟩, by (dsimp only; omega), ⟨⟨rfl, rfl, rfl, rfl, rfl, rfl, rfl, rfl, rfl, rfl, rfl, rfl, trivial⟩, fun _ h => Inv.sub h [114, 106, 0]⟩⟩
              · -- FFFFTFF
                refine VC.exit ?_
                refine outE ?_
                refine outE ?_
                refine outBB ?_
                refine outN ?_
                refine VC.seq ?_
                refine VC.rs ?_
                refine VO.mv ?_
                obtain ⟨q146_E, q146_A2, q146_c2, q146_n0, q146_n2, _, q146_S, q146_0, q146_2⟩ := openP_runRuns (x0 := (s6_0, w_0)) (x1 := w_1) (x2 := w_2) h_w
                dsimp only at q146_0
                have q146_r2 := q146_2.rm
                refine VO.inv _ (fun _ h => h.parts (i := 106) rfl q146_S [249, 247, 248]) ?_
                refine VO.call 247 rfl fnOk33 rfl rfl (fun W hW => dPull_ok W (hW.at (i := 247) rfl) q146_0 (by assumption)) (fun v145 m145 hv145 => ?_)
                obtain ⟨rfl, w145_0⟩ := hv145
                have hfa150 := (pull_ok (show okD w_0 by assumption))
                have hfa151 := (pull_w w_0)
                refine VO.y rfl (.neq rfl rfl) ?_
                refine VO.mv ?_
                refine VO.dec (t := 124) rfl (fun hc152 => ?_) (fun hc152 => ?_)
                · -- FFFFTFFT
                  first | exact absurd rfl hc152 | exact absurd (by decide) hc152 | (refine absurd ?_ hc152; rw [ru0]; done) | exact absurd hrr.1 hc152 | exact absurd (congrArg Prod.snd hrr.2.1) hc152 | exact absurd hrr.2.2.1 hc152 | exact absurd hrr.2.2.2.2.2.2.1 hc152 | (refine absurd ?_ hc152; rw [hrr.2.1]; done) | exact absurd (kq_pull (ku_kq hz.2) (ku_on hz.2)).1 hc152 | exact absurd (kq_start (kq_pull (ku_kq hz.2) (ku_on hz.2)).2.1 (kq_pull (ku_kq hz.2) (ku_on hz.2)).2.2 (by omega) (by omega)).1 hc152 | exact absurd hko.1 hc152 | exact absurd hen hc152 | (refine absurd ?_ hc152; rw [hans]; done) | exact absurd (by rw [hans]) hc152 | (exfalso; omega)
                · -- FFFFTFFF
                  refine VO.gy rfl ⟨_, rfl, rfl⟩ (.mv rfl) ?_
                  refine VO.gy rfl ⟨_, rfl, rfl⟩ (.mv rfl) ?_
                  refine VO.gy rfl ⟨_, rfl, rfl⟩ (.mv rfl) ?_
                  refine VO.gcall 247 rfl ⟨_, rfl, rfl⟩ fnOk34 rfl rfl (fun W hW => dStart_ok W (hW.at (i := 247) rfl) w145_0 d2 bdk d3 bdk (by assumption) bd) (fun v153 m153 hv153 => ?_)
                  obtain ⟨rfl, w153_0⟩ := hv153
                  have hfa154 := (start_ok (k := d2) (t := d3) (show okD ((dPull w_0).1) by assumption))
                  have hfa155 := (start_w ((dPull w_0).1) d2 d3)
                  refine VO.gy rfl ⟨_, rfl, rfl⟩ (.neq rfl rfl) ?_
                  refine VO.y rfl (.pF rfl rfl) ?_
                  refine VO.clsP 256 [249, 247, 248] rfl (fun hg156 => (mkP_runRuns (s6_0, (dStart ((dPull w_0).1) d2 d3).1) w_1 w_2 hg156 w153_0 q146_2)) (fun mc156 ho156 => ?_)
                  refine VO.k14 0 1 2 3 9 10 11 12 13 28 44 61 65 130 ?_
                  refine VC.cond rfl (fun hc157 => ?_) (fun hc157 => ?_)
                  · -- FFFFTFFFT
                    first | exact absurd rfl hc157 | exact absurd (by decide) hc157 | (refine absurd ?_ hc157; rw [ru0]; done) | exact absurd hrr.1 hc157 | exact absurd (congrArg Prod.snd hrr.2.1) hc157 | exact absurd hrr.2.2.1 hc157 | exact absurd hrr.2.2.2.2.2.2.1 hc157 | (refine absurd ?_ hc157; rw [hrr.2.1]; done) | exact absurd (kq_pull (ku_kq hz.2) (ku_on hz.2)).1 hc157 | exact absurd (kq_start (kq_pull (ku_kq hz.2) (ku_on hz.2)).2.1 (kq_pull (ku_kq hz.2) (ku_on hz.2)).2.2 (by omega) (by omega)).1 hc157 | exact absurd hko.1 hc157 | exact absurd hen hc157 | (refine absurd ?_ hc157; rw [hans]; done) | exact absurd (by rw [hans]) hc157 | (exfalso; omega)
                  · -- FFFFTFFFF
                    refine VC.skip ?_
                    refine outN ?_
                    refine VC.rs ?_
                    obtain ⟨q158_E, q158_A2, q158_c2, q158_n0, q158_n2, _, q158_S, q158_0, q158_2⟩ := openP_runRuns (x0 := (s6_0, (dStart ((dPull w_0).1) d2 d3).1)) (x1 := w_1) (x2 := w_2) ho156
                    dsimp only at q158_0
                    have q158_r2 := q158_2.rm
                    refine VO.inv _ (fun _ h => h.parts (i := 256) rfl q158_S [261, 259, 260]) ?_
                    have hkrr : Kr ((dStart ((dPull w_0).1) d2 d3).1) w_2 w_2 := (kq_start (kq_pull (ku_kq hz.2) (ku_on hz.2)).2.1 (kq_pull (ku_kq hz.2) (ku_on hz.2)).2.2 (by omega) (by omega)).2
                    have hko := kr_open hkrr; have he2 := kr_same hkrr; have hans := fun q => tab_ans hT q; have hen : endR w_2 = (d0.length : Int) := by rw [hl.2]; omega
                    rw [← he2] at hans hen
                    refine VO.mv ?_
                    by_cases hsp162 : (uOpen ((dStart ((dPull w_0).1) d2 d3).1)).2 = 0
                    · -- FFFFTFFFFT
                      refine VO.call 259 rfl fnOk9 rfl rfl (fun W hW => uOpenY_ok W (hW.at (i := 259) rfl) q158_0 (by assumption) bd (by assumption)) (fun v163 m163 hv163 => ?_)
                      obtain ⟨s163_0, rfl, f163_0⟩ := hv163
                      have hfa164 := (uopen_ok (show okD ((dStart ((dPull w_0).1) d2 d3).1) by assumption))
                      have hfa165 := (uopen_w (show okD ((dStart ((dPull w_0).1) d2 d3).1) by assumption))
                      have hfa166 := (runF_ok (dRead ((dStart ((dPull w_0).1) d2 d3).1) 2).1).1
                      refine VO.mv ?_
                      refine VO.y rfl (.ext rfl rfl) ?_
                      refine VO.y rfl (.ext rfl rfl) ?_
                      refine VO.as ?_
                      refine VO.as ?_
                      refine VO.k15 0 1 2 3 9 10 11 12 13 19 28 44 61 65 130 ?_
                      refine VC.seq ?_
                      refine VC.rs ?_
                      refine VO.mv ?_
                      refine VO.y rfl (.neq rfl rfl) ?_
                      refine VO.mv ?_
                      refine VO.known (t := 138) false rfl (decide_eq_false hc15) ?_
                      refine VO.gy rfl ⟨_, rfl, rfl⟩ (.mv rfl) ?_
                      refine VO.gy rfl ⟨_, rfl, rfl⟩ (.pnil rfl rfl Try.underlying23 rfl) ?_
                      refine VO.y rfl (.pF rfl rfl) ?_
                      refine VO.mv ?_
                      refine VO.gy rfl ⟨_, rfl, rfl⟩ (.mv rfl) ?_
                      refine VO.gcall 259 rfl ⟨_, rfl, rfl⟩ fnOk28 rfl rfl (fun W hW => uEnd_ok W (hW.at (i := 259) rfl) f163_0 (by assumption)) (fun v167 m167 hv167 => ?_)
                      try dsimp only at hv167
                      obtain ⟨rfl, w167_0⟩ := hv167
                      refine VO.gy rfl ⟨_, rfl, rfl⟩ (.mv rfl) ?_
                      refine VO.gy rfl ⟨_, rfl, rfl⟩ (.lenS rfl tsl52) ?_
                      refine VO.gy rfl ⟨_, rfl, rfl⟩ (.neq rfl rfl) ?_
                      refine VO.y rfl (.pF rfl rfl) ?_
                      refine VO.kp [259, 261, 260, 114, 0] [(259, m167), (261, mone s10_0 (.cells [Value.pointer (some ⟨s6_0, 0, none⟩), Value.bool w_1, Value.slice q158_A2 (w_2.length) (q158_c2)].toArray q158_E (0, 0))), (260, q158_n2), (114, t_m), (0, wm W)] ?_
                      refine VO.k16 0 1 2 3 9 10 11 12 13 19 28 44 61 65 130 148 ?_
                      refine VC.cond rfl (fun hc168 => ?_) (fun hc168 => ?_)
                      · -- FFFFTFFFFTT
                        first | exact absurd rfl hc168 | exact absurd (by decide) hc168 | (refine absurd ?_ hc168; rw [ru0]; done) | exact absurd hrr.1 hc168 | exact absurd (congrArg Prod.snd hrr.2.1) hc168 | exact absurd hrr.2.2.1 hc168 | exact absurd hrr.2.2.2.2.2.2.1 hc168 | (refine absurd ?_ hc168; rw [hrr.2.1]; done) | exact absurd (kq_pull (ku_kq hz.2) (ku_on hz.2)).1 hc168 | exact absurd (kq_start (kq_pull (ku_kq hz.2) (ku_on hz.2)).2.1 (kq_pull (ku_kq hz.2) (ku_on hz.2)).2.2 (by omega) (by omega)).1 hc168 | exact absurd hko.1 hc168 | exact absurd hen hc168 | (refine absurd ?_ hc168; rw [hans]; done) | exact absurd (by rw [hans]) hc168 | (exfalso; omega)
                      · -- FFFFTFFFFTF
                        refine VC.skip ?_
                        refine outN ?_
                        refine VC.seq ?_
                        refine VC.rs ?_
                        refine VO.as ?_
                        refine VO.k17 0 1 2 3 9 10 11 12 13 19 20 28 44 61 65 130 148 ?_
                        refine VC.block ?_
                        refine VC.loop (G := Nat × Mem × Mem) (fun g => [(20, Value.int .i64 ((((g.1) : Nat) : Int))), (0, Value.slice A0 (d0.length) (c0)), (1, Value.slice A1 (d1.length) (c1)), (2, Value.int .i64 (d2)), (3, Value.int .i64 (d3)), (9, Value.pointer (some ⟨s6_0, 0, none⟩)), (10, Value.pointer (some ⟨s10_0, 0, none⟩)), (11, Value.int .i64 (0)), (12, Value.pointer (some ⟨s14_0, 0, none⟩)), (13, Value.int .i64 (((i : Nat) : Int))), (19, Value.pointer (some ⟨s163_0, 0, none⟩)), (28, Value.bool false), (44, Value.bool (decide (d3 < 0))), (61, Value.bool false), (65, Value.bool (decide (((i : Nat) : Int) < ((d0.length : Nat) : Int)))), (130, Value.bool (decide (¬ ((dStart ((dPull w_0).1) d2 d3).2) = 0))), (148, Value.bool (decide (¬ (endR ((runF (dRead ((dStart ((dPull w_0).1) d2 d3).1) 2).1).1)) = ((d0.length : Nat) : Int))))]) (fun g => [(259, (g.2.1)), (261, mone s10_0 (.cells [Value.pointer (some ⟨s6_0, 0, none⟩), Value.bool w_1, Value.slice q158_A2 (w_2.length) (q158_c2)].toArray q158_E (0, 0))), (260, q158_n2), (114, (g.2.2)), (0, wm W)]) (fun g => ((g.1) ≤ d1.length) ∧ (Ow (.ptr TrunRuns) (g.2.1) [.pointer (some ⟨s163_0, 0, none⟩)] (s163_0, ((s6_0, ((uOpen ((dStart ((dPull w_0).1) d2 d3).1)).1)), false, ((runF (dRead ((dStart ((dPull w_0).1) d2 d3).1) 2).1).1)))) ∧ (Ow (.ptr TtableTable) (g.2.2) [.pointer (some ⟨s14_0, 0, none⟩)] (s14_0, t))) (fun g => d1.length - (g.1)) (0, m167, t_m) (⟨by omega, w167_0, h_t⟩) ⟨⟨rfl, rfl, rfl, rfl, rfl, rfl, rfl, rfl, rfl, rfl, rfl, rfl, rfl, rfl, rfl, rfl, rfl, trivial⟩, fun _ h => h.sub [259, 261, 260, 114, 0]⟩ ?_
                        rintro ⟨j, v_m, tt_m⟩ ⟨hj, h_v, h_tt⟩
                        replace hj : j ≤ d1.length := hj
                        replace h_v : Ow (.ptr TrunRuns) v_m [.pointer (some ⟨s163_0, 0, none⟩)] (s163_0, ((s6_0, ((uOpen ((dStart ((dPull w_0).1) d2 d3).1)).1)), false, ((runF (dRead ((dStart ((dPull w_0).1) d2 d3).1) 2).1).1))) := h_v
                        replace h_tt : Ow (.ptr TtableTable) tt_m [.pointer (some ⟨s14_0, 0, none⟩)] (s14_0, t) := h_tt
                        show VC _ _ _ _ _ [(20, Value.int .i64 (((j : Nat) : Int))), (0, Value.slice A0 (d0.length) (c0)), (1, Value.slice A1 (d1.length) (c1)), (2, Value.int .i64 (d2)), (3, Value.int .i64 (d3)), (9, Value.pointer (some ⟨s6_0, 0, none⟩)), (10, Value.pointer (some ⟨s10_0, 0, none⟩)), (11, Value.int .i64 (0)), (12, Value.pointer (some ⟨s14_0, 0, none⟩)), (13, Value.int .i64 (((i : Nat) : Int))), (19, Value.pointer (some ⟨s163_0, 0, none⟩)), (28, Value.bool false), (44, Value.bool (decide (d3 < 0))), (61, Value.bool false), (65, Value.bool (decide (((i : Nat) : Int) < ((d0.length : Nat) : Int)))), (130, Value.bool (decide (¬ ((dStart ((dPull w_0).1) d2 d3).2) = 0))), (148, Value.bool (decide (¬ (endR ((runF (dRead ((dStart ((dPull w_0).1) d2 d3).1) 2).1).1)) = ((d0.length : Nat) : Int))))] [(259, v_m), (261, mone s10_0 (.cells [Value.pointer (some ⟨s6_0, 0, none⟩), Value.bool w_1, Value.slice q158_A2 (w_2.length) (q158_c2)].toArray q158_E (0, 0))), (260, q158_n2), (114, tt_m), (0, wm W)]
                        refine VC.seq ?_
                        refine VC.rs ?_
                        refine VO.mv ?_
                        refine VO.mv ?_
                        refine VO.y rfl (.lenS rfl tsl68) ?_
                        refine VO.y rfl (.lss rfl rfl) ?_
                        refine VO.k18 0 1 2 3 9 10 11 12 13 19 20 28 44 61 65 130 148 152 ?_
                        refine VC.cond rfl (fun hc169 => ?_) (fun hc169 => ?_)
                        · -- FFFFTFFFFTFT
                          refine VC.skip ?_
                          refine outN ?_
                          refine VC.seq ?_
                          refine VC.block ?_
                          refine VC.rs ?_
                          refine VO.mv ?_
                          refine VO.mv ?_
                          refine VO.mv ?_
                          obtain ⟨x170, hx170⟩ : ∃ z_, (d1)[j]? = some z_ := ⟨_, List.getElem?_eq_getElem bd⟩
                          obtain ⟨gg170, oo170, ec170, ea170, hce170, hre170⟩ := h1.elem hx170
                          cases ea170
                          obtain ⟨rfl, q170⟩ := hre170
                          have q170' := q170; simp only [maxLen] at q170'
                          refine VO.y rfl (.ixI j rfl rfl tsl68 rfl bd) ?_
                          refine VO.y rfl (.ld1 0 rfl tk9 rfl hce170) ?_
                          obtain ⟨q172_E, q172_A2, q172_c2, q172_n0, q172_n2, _, q172_S, q172_0, q172_2⟩ := openP_runRuns (x0 := (s6_0, ((uOpen ((dStart ((dPull w_0).1) d2 d3).1)).1))) (x1 := false) (x2 := ((runF (dRead ((dStart ((dPull w_0).1) d2 d3).1) 2).1).1)) h_v
                          dsimp only at q172_0
                          have q172_r2 := q172_2.rm
                          refine VO.inv _ (fun _ h => h.parts (i := 259) rfl q172_S [275, 273, 274]) ?_
                          refine VO.call 275 rfl fnOk13 rfl rfl (fun W hW => uGet_ok W (d0 := ((some s6_0), false, ((runF (dRead ((dStart ((dPull w_0).1) d2 d3).1) 2).1).1))) (hW.at (i := 275) rfl) (Ow.rd q172_2 (hW.out (i := 275) (j := 274) rfl rfl)) x170 bdm (by assumption) (by first | assumption | simp)) (fun v171 m171 hv171 => ?_)
                          try dsimp only at hv171
                          obtain ⟨rfl, rfl⟩ := hv171
                          refine VO.mv ?_
                          refine VO.y rfl (.ext rfl rfl) ?_
                          refine VO.y rfl (.ext rfl rfl) ?_
                          refine VO.y rfl (.ext rfl rfl) ?_
                          refine VO.as ?_
                          refine VO.as ?_
                          refine VO.as ?_
                          refine VO.clsP 276 [275, 273, 274] rfl (fun hg176 => (mkP_runRuns (s6_0, ((uOpen ((dStart ((dPull w_0).1) d2 d3).1)).1)) false ((runF (dRead ((dStart ((dPull w_0).1) d2 d3).1) 2).1).1) hg176 q172_0 q172_2)) (fun mc176 ho176 => ?_)
                          refine VO.kp [276, 261, 260, 114, 0] [(276, mc176), (261, mone s10_0 (.cells [Value.pointer (some ⟨s6_0, 0, none⟩), Value.bool w_1, Value.slice q158_A2 (w_2.length) (q158_c2)].toArray q158_E (0, 0))), (260, q158_n2), (114, tt_m), (0, wm W)] ?_
                          refine VO.k21 0 1 2 3 9 10 11 12 13 19 20 21 22 23 28 44 61 65 130 148 152 ?_
                          refine VC.rs ?_
                          refine VO.mv ?_
                          refine VO.mv ?_
                          refine VO.mv ?_
                          refine VO.y rfl (.ixI j rfl rfl tsl68 rfl bd) ?_
                          refine VO.y rfl (.ld1 0 rfl tk9 rfl hce170) ?_
                          refine VO.call 114 rfl fnOk37 rfl rfl (fun W hW => tGet_ok W (hW.at (i := 114) rfl) h_tt x170 bdm) (fun v178 m178 hv178 => ?_)
                          obtain ⟨rfl, w178_0⟩ := hv178
                          refine VO.mv ?_
                          refine VO.y rfl (.ext rfl rfl) ?_
                          refine VO.y rfl (.ext rfl rfl) ?_
                          refine VO.y rfl (.ext rfl rfl) ?_
                          refine VO.as ?_
                          refine VO.as ?_
                          refine VO.as ?_
                          refine VO.k24 0 1 2 3 9 10 11 12 13 19 20 21 22 23 24 25 26 28 44 61 65 130 148 152 ?_
                          refine VC.rs ?_
                          refine VO.mv ?_
                          refine VO.mv ?_
                          refine VO.y rfl (.sneq rfl rfl) ?_
                          refine VO.mv ?_
                          refine VO.dec (t := 178) rfl (fun hc179 => ?_) (fun hc179 => ?_)
                          · -- FFFFTFFFFTFTT
                            first | exact absurd rfl hc179 | exact absurd (by decide) hc179 | (refine absurd ?_ hc179; rw [ru0]; done) | exact absurd hrr.1 hc179 | exact absurd (congrArg Prod.snd hrr.2.1) hc179 | exact absurd hrr.2.2.1 hc179 | exact absurd hrr.2.2.2.2.2.2.1 hc179 | (refine absurd ?_ hc179; rw [hrr.2.1]; done) | exact absurd (kq_pull (ku_kq hz.2) (ku_on hz.2)).1 hc179 | exact absurd (kq_start (kq_pull (ku_kq hz.2) (ku_on hz.2)).2.1 (kq_pull (ku_kq hz.2) (ku_on hz.2)).2.2 (by omega) (by omega)).1 hc179 | exact absurd hko.1 hc179 | exact absurd hen hc179 | (refine absurd ?_ hc179; rw [hans]; done) | exact absurd (by rw [hans]) hc179 | (exfalso; omega)
                          · -- FFFFTFFFFTFTF
                            refine VO.gy rfl ⟨_, rfl, rfl⟩ (.mv rfl) ?_
                            refine VO.gy rfl ⟨_, rfl, rfl⟩ (.mv rfl) ?_
                            refine VO.gy rfl ⟨_, rfl, rfl⟩ (.bneq rfl rfl Try.underlying4) ?_
                            refine VO.y rfl (.pF rfl rfl) ?_
                            refine VO.mv ?_
                            refine VO.dec (t := 183) rfl (fun hc180 => ?_) (fun hc180 => ?_)
                            · -- FFFFTFFFFTFTFT
                              first | exact absurd rfl hc180 | exact absurd (by decide) hc180 | (refine absurd ?_ hc180; rw [ru0]; done) | exact absurd hrr.1 hc180 | exact absurd (congrArg Prod.snd hrr.2.1) hc180 | exact absurd hrr.2.2.1 hc180 | exact absurd hrr.2.2.2.2.2.2.1 hc180 | (refine absurd ?_ hc180; rw [hrr.2.1]; done) | exact absurd (kq_pull (ku_kq hz.2) (ku_on hz.2)).1 hc180 | exact absurd (kq_start (kq_pull (ku_kq hz.2) (ku_on hz.2)).2.1 (kq_pull (ku_kq hz.2) (ku_on hz.2)).2.2 (by omega) (by omega)).1 hc180 | exact absurd hko.1 hc180 | exact absurd hen hc180 | (refine absurd ?_ hc180; rw [hans]; done) | exact absurd (by rw [hans]) hc180 | (exfalso; omega)
                            · -- FFFFTFFFFTFTFF
                              refine VO.gy rfl ⟨_, rfl, rfl⟩ (.mv rfl) ?_
                              refine VO.gy rfl ⟨_, rfl, rfl⟩ (.mv rfl) ?_
                              refine VO.gy rfl ⟨_, rfl, rfl⟩ (.bneq rfl rfl Try.underlying4) ?_
                              refine VO.y rfl (.pF rfl rfl) ?_
                              refine VO.esub [(0, _), (1, _), (2, _), (3, _), (9, _), (10, _), (11, _), (12, _), (13, _), (19, _), (20, _), (21, _), (22, _), (23, _), (24, _), (25, _), (26, _), (28, _), (44, _), (61, _), (65, _), (130, _), (148, _), (152, _), (187, _)] ⟨rfl, rfl, rfl, rfl, rfl, rfl, rfl, rfl, rfl, rfl, rfl, rfl, rfl, rfl, rfl, rfl, rfl, rfl, rfl, rfl, rfl, rfl, rfl, rfl, rfl, trivial⟩ (VO.nil ?_)
                              refine VC.cond rfl (fun hc181 => ?_) (fun hc181 => ?_)
                              · -- FFFFTFFFFTFTFFT
                                first | exact absurd rfl hc181 | exact absurd (by decide) hc181 | (refine absurd ?_ hc181; rw [ru0]; done) | exact absurd hrr.1 hc181 | exact absurd (congrArg Prod.snd hrr.2.1) hc181 | exact absurd hrr.2.2.1 hc181 | exact absurd hrr.2.2.2.2.2.2.1 hc181 | (refine absurd ?_ hc181; rw [hrr.2.1]; done) | exact absurd (kq_pull (ku_kq hz.2) (ku_on hz.2)).1 hc181 | exact absurd (kq_start (kq_pull (ku_kq hz.2) (ku_on hz.2)).2.1 (kq_pull (ku_kq hz.2) (ku_on hz.2)).2.2 (by omega) (by omega)).1 hc181 | exact absurd hko.1 hc181 | exact absurd hen hc181 | (refine absurd ?_ hc181; rw [hans]; done) | exact absurd (by rw [hans]) hc181 | (exfalso; omega)
                              · -- FFFFTFFFFTFTFFF
                                refine VC.skip ?_
                                refine outBN ?_
                                refine outN ?_
                                refine VC.reg ?_
                                refine VO.mv ?_
                                refine VO.y rfl (.add (c := ((j + 1 : Nat) : Int)) rfl rfl (by omega) ⟨bd, bd⟩) ?_
                                refine VO.as ?_
                                refine VO.kp [114, 276, 261, 260, 0] [(114, m178), (276, mc176), (261, mone s10_0 (.cells [Value.pointer (some ⟨s6_0, 0, none⟩), Value.bool w_1, Value.slice q158_A2 (w_2.length) (q158_c2)].toArray q158_E (0, 0))), (260, q158_n2), (0, wm W)] ?_
                                refine VO.esub [(0, _), (1, _), (2, _), (3, _), (9, _), (10, _), (11, _), (12, _), (13, _), (19, _), (20, _), (21, _), (22, _), (23, _), (24, _), (25, _), (26, _), (28, _), (44, _), (61, _), (65, _), (130, _), (148, _), (152, _), (187, _)] ⟨rfl, rfl, rfl, rfl, rfl, rfl, rfl, rfl, rfl, rfl, rfl, rfl, rfl, rfl, rfl, rfl, rfl, rfl, rfl, rfl, rfl, rfl, rfl, rfl, rfl, trivial⟩ (VO.nil ?_)
                                exact outN ⟨⟨j + 1, mc176, m178⟩, ⟨by omega, ho176, w178_0⟩, bd, ⟨⟨rfl, rfl, rfl, rfl, rfl, rfl, rfl, rfl, rfl, rfl, rfl, rfl, rfl, rfl, rfl, rfl, rfl, trivial⟩, fun _ h => Inv.sub (Inv.num h 276 259 rfl) [259, 261, 260, 114, 0]⟩⟩
                        · -- FFFFTFFFFTFF
                          refine VC.exit ?_
                          refine outE ?_
                          refine outE ?_
                          refine outBB ?_
                          refine outN ?_
                          refine VC.rs ?_
                          refine VO.as ?_
                          refine VO.kp [259, 261, 260, 114, 0] [(259, v_m), (261, mone s10_0 (.cells [Value.pointer (some ⟨s6_0, 0, none⟩), Value.bool w_1, Value.slice q158_A2 (w_2.length) (q158_c2)].toArray q158_E (0, 0))), (260, q158_n2), (114, tt_m), (0, wm W)] ?_
                          refine VO.k19 0 1 2 3 8 9 10 11 12 13 19 20 28 44 61 65 130 148 152 ?_
                          refine VC.ret ?_
                          refine ⟨_, _, res_run (rs := [.tmp 8]) rfl (.tmp rfl .nil), fun W_ hI => out_of (l := []) hI [] rfl rfl (mle_refl _) (fun hS_ => ?_)⟩
                          dsimp only [packV]
                          all_goals (first | rfl | (rfl))
                    · -- FFFFTFFFFF
                      first | exact absurd rfl hsp162 | exact absurd (by decide) hsp162 | (refine absurd ?_ hsp162; rw [ru0]; done) | exact absurd hrr.1 hsp162 | exact absurd (congrArg Prod.snd hrr.2.1) hsp162 | exact absurd hrr.2.2.1 hsp162 | exact absurd hrr.2.2.2.2.2.2.1 hsp162 | (refine absurd ?_ hsp162; rw [hrr.2.1]; done) | exact absurd (kq_pull (ku_kq hz.2) (ku_on hz.2)).1 hsp162 | exact absurd (kq_start (kq_pull (ku_kq hz.2) (ku_on hz.2)).2.1 (kq_pull (ku_kq hz.2) (ku_on hz.2)).2.2 (by omega) (by omega)).1 hsp162 | exact absurd hko.1 hsp162 | exact absurd hen hsp162 | (refine absurd ?_ hsp162; rw [hans]; done) | exact absurd (by rw [hans]) hsp162 | (exfalso; omega)
          · -- FFFFF
            first | exact absurd rfl hsp9 | exact absurd (by decide) hsp9 | (refine absurd ?_ hsp9; rw [ru0]; done) | exact absurd hrr.1 hsp9 | exact absurd (congrArg Prod.snd hrr.2.1) hsp9 | exact absurd hrr.2.2.1 hsp9 | exact absurd hrr.2.2.2.2.2.2.1 hsp9 | (refine absurd ?_ hsp9; rw [hrr.2.1]; done) | exact absurd (kq_pull (ku_kq hz.2) (ku_on hz.2)).1 hsp9 | exact absurd (kq_start (kq_pull (ku_kq hz.2) (ku_on hz.2)).2.1 (kq_pull (ku_kq hz.2) (ku_on hz.2)).2.2 (by omega) (by omega)).1 hsp9 | exact absurd hko.1 hsp9 | exact absurd hen hsp9 | (refine absurd ?_ hsp9; rw [hans]; done) | exact absurd (by rw [hans]) hsp9 | (exfalso; omega)
section
open Go.ChangeShapes Go.WideShapes Go.ChangeAt Go.RowKit
theorem runTable_ok0 : tyOk Try.prog 60 (.sl (.sl TOp)) (.inl 52) = true := by kernel_rfl
theorem runTable_ok1 : tyOk Try.prog 60 (.sl .str) (.inl 68) = true := by kernel_rfl
set_option maxRecDepth 100000 in
theorem runTable_lifted (os : Os) (started : os.Started) (H : Type) (enc : TypeId × Value → H) :
    ReturnsInHanded {} Try.checked os 7 .any (Rows.runTableSpec.pre6 enc Try.prog Try.f7 Rows.runTableRow.domain false) (Rows.runTableSpec.post enc Try.prog Try.f7 false true false false) := by
  refine returnsInHanded_of_change (C := Try.checked) (by kernel_rfl) started (by kernel_rfl) Try.func7
    (ChangeSpec.witness6 (enc := enc) (C := Try.checked) false ⟨#[], #[.slice none 0 0, .slice none 0 0, .int .i64 0, .int .i64 0], []⟩ 8 (by kernel_rfl) (by kernel_rfl) (by kernel_rfl) (by kernel_rfl)) ?_
  intro W base args ds gs before hval0 hW hcnd _
  have hval : ∀ (j : Nat) t v, Try.f7.params[j]? = some t → args[j]? = some v → Value.okWide Try.prog W .any base t v := hval0
  have hW' := hW
  obtain ⟨p, q, hA0, hV, rfl, hfz, hnd⟩ := hW
  have hA : DataW.TrodAll enc Try.prog W 0 (fun _ => true) true Try.f7.params.toList args.toList ds p := hA0
  rw [Try.params7] at hA hval
  clear hA0 hval0
  obtain ⟨args⟩ := args
  obtain ⟨v0, r0, d0, e0, p0, q0, ha0, rfl, rfl, h0, hA0⟩ := trodAll_cons hA
  simp only at ha0; subst ha0
  obtain ⟨v1, r1, d1, e1, p1, q1, ha1, rfl, rfl, h1, hA1⟩ := trodAll_cons hA0
  subst ha1
  obtain ⟨v2, r2, d2, e2, p2, q2, ha2, rfl, rfl, h2, hA2⟩ := trodAll_cons hA1
  subst ha2
  obtain ⟨v3, r3, d3, e3, p3, q3, ha3, rfl, rfl, h3, hA3⟩ := trodAll_cons hA2
  subst ha3
  obtain ⟨rfl, rfl, rfl⟩ := trodAll_nil hA3
  obtain ⟨x0, hx0⟩ := arg_sl 60 runTable_ok0 Try.underlying52 (hval 0 52 v0 rfl rfl) h0
  obtain ⟨x1, hx1⟩ := arg_sl 60 runTable_ok1 Try.underlying68 (hval 1 68 v1 rfl rfl) h1
  obtain ⟨x2, rfl, hx2⟩ := arg_int Try.underlying3 (hval 2 3 v2 rfl rfl) h2
  obtain ⟨x3, rfl, hx3⟩ := arg_int Try.underlying3 (hval 3 3 v3 rfl rfl) h3
  refine (calls_of (runTable_ok W hx0 hx1 x2 hx2 x3 hx3)).mono fun e W' ⟨he, hg⟩ => ?_
  subst he
  exact ⟨_, rfl, law_post hW' hg laidOut_ok (by kernel_rfl) rfl Try.underlying4 rfl rfl rfl rfl⟩
theorem runTable_joined : joinedFacts Try.prog 7 Try.f7 Rows.runTableSpec Rows.runTableRow = true := by
  unfold joinedFacts
  rw [laidOut_ok, mapsRowed_ok, stopsHeard_ok, mayEnter_ok, lifts_ok, make_ok]
  kernel_rfl
theorem runTable_proved : Rows.RunTableSaid :=
  OpenClaim.holds_of_wide 7 Try.f7 rfl rfl rfl rfl rfl rfl rfl ⟨rfl, rfl, rfl, rfl, rfl⟩ rfl rfl rfl rfl rfl (by kernel_rfl) Try.func7 runTable_joined
    (of_decide_eq_true (by kernel_rfl)) (by unfold Func.isWrapper; first | (rw [if_pos (by decide +kernel)]; kernel_rfl) | (rw [if_neg (by decide +kernel)]; exact ⟨rfl, rfl⟩))
    (fun os started H enc _ => runTable_lifted os started H enc)
#print axioms runTable_proved
end
end Go.Proofs.Ytgmdjhdgaddigaa
