/- Part 4 of the proof of LRunNames: what it needs of the library, the walks and the plain laws. Conditions: those named in each theorem. -/
import Derived.Test.YtgmdjhdgaddigaaLRunNamesM3
set_option linter.unusedVariables false
set_option linter.unusedSimpArgs false
set_option maxRecDepth 4000
namespace Go.Proofs.Ytgmdjhdgaddigaa
theorem fnOk10 : fnOk Try.prog 10 = true := by kernel_rfl
theorem fnOk11 : fnOk Try.prog 11 = true := by kernel_rfl
theorem fnOk12 : fnOk Try.prog 12 = true := by kernel_rfl
theorem fnOk13 : fnOk Try.prog 13 = true := by kernel_rfl
theorem fnOk9 : fnOk Try.prog 9 = true := by kernel_rfl
theorem example13_ok (W : World) : CallR Try.prog 12 [] W (mnil) (fun v m' => ∃ (s0 : List Value), v = .agg s0.toArray ∧ Ow TRun m' s0 (exR)) := by
  refine CallR.ofA (n := 5) Try.func12 rfl rfl rfl ?_
  refine VC.rs ?_
  refine VO.alloc 102 rfl tz32 (fun g1 => ?_)
  refine VO.k1 0 ?_
  refine VC.rs ?_
  refine VO.y rfl (.bst (cs := [Value.bool false, str ([97]), str ([])]) rfl tst35 tz35 rfl) ?_
  refine VO.y rfl (.bst (cs := [Value.bool true, str ([98]), str ([49])]) rfl tst35 tz35 rfl) ?_
  refine VO.bsl (cs := [Value.bool false, str ([97]), str ([]), Value.bool true, str ([98]), str ([49])]) 104 rfl rfl tsl30 tz35 rfl rfl (fun g3 => ?_)
  refine VO.y rfl (.bst (cs := [Value.int .i64 (1), Value.int .i64 (2), Value.slice (some ⟨g3, 0, none⟩) (2) (2)]) rfl tst32 tz32 rfl) ?_
  refine VO.store (k := 3) (c' := [Value.int .i64 (1), Value.int .i64 (2), Value.slice (some ⟨g3, 0, none⟩) (2) (2)]) 102 rfl rfl (.inl tk32) rfl rfl rfl rfl rfl ?_
  refine VO.k1 0 ?_
  refine VC.ret ?_
  have ho5 : OwnL TOp (mone g3 (.cells [Value.bool false, str ([97]), str ([]), Value.bool true, str ([98]), str ([49])].toArray 35 (0, 0))) mnil (Value.slice (some ⟨g3, 0, none⟩) (2) (2)) [(false, [97], []), (true, [98], [49])] := OwnL.lit 2 (All2c.cons (c1 := [Value.bool false, str ([97]), str ([])]) (mk_Op (m := _) false ([97]) [] bdm bdm) (All2c.cons (c1 := [Value.bool true, str ([98]), str ([49])]) (mk_Op (m := _) true ([98]) ([49]) bdm bdm) All2c.nil)) rfl rfl
  refine ⟨_, _, res_run (rs := [.cell 0 32]) rfl (.agg 102 rfl tk32 rfl ⟨_, _, _, mone_self _ _, Nat.le_of_ble_eq_true rfl, rfl⟩ .nil), fun W_ hI => out_of (l := [mone g3 (.cells [Value.bool false, str ([97]), str ([]), Value.bool true, str ([98]), str ([49])].toArray 35 (0, 0))]) hI [104] rfl rfl (mle_refl _) (fun hS_ => ?_)⟩
  dsimp only [packV]
  have he0 : (exR : Ty.Den TRun) = (1, 2, [(false, [97], []), (true, [98], [49])]) := by first | rfl | (simp [*]; done)
  refine ⟨[Value.int .i64 (1), Value.int .i64 (2), Value.slice (some ⟨g3, 0, none⟩) (2) (2)], ?_, ?_⟩
  rotate_left
  · rw [he0]; exact (mkO_Run 1 2 ([(false, [97], []), (true, [98], [49])]) hS_ bdk bdk (OwnL.ow ho5 rfl))
  all_goals (first | rfl | (simp [*]; done))
set_option maxHeartbeats 4000000 in
theorem lives13_ok (W : World) : CallR Try.prog 8 [] W (mnil) (fun v m' => v = .bool true) := by
  refine CallR.ofA (n := 59) Try.func8 rfl rfl rfl ?_
  refine VC.rs ?_
  refine VO.as ?_
  refine VO.k1 0 ?_
  refine VC.rs ?_
  refine VO.callN 101 rfl fnOk12 rfl (fun W hW => example13_ok W ) (fun v1 m1 hv1 => ?_)
  obtain ⟨s1_0, rfl, f1_0⟩ := hv1
  obtain ⟨q1_0_A2, q1_0_c2, q1_0_n2, rfl, q1_0_S, q1_0_0, q1_0_1, q1_0_2⟩ := openO_Run (x0 := exR.1) (x1 := exR.2.1) (x2 := exR.2.2) f1_0
  simp only [inK] at q1_0_0
  simp only [inK] at q1_0_1
  have q1_0_r2 := q1_0_2.rm
  refine VO.inv _ (fun _ h => h.parts (i := 101) rfl q1_0_S [102]) ?_
  refine VO.callN 103 rfl fnOk17 rfl (fun W hW => runEncode_ok W (show Rd TRun _ _ exR from (mk_Run (m := wm W) exR.1 exR.2.1 exR.2.2 bdk bdk (OwnL.rd (Ow.ownl q1_0_2 rfl mnil) (hW.at (i := 102) rfl) (mle_nil _))))) (fun v3 m3 hv3 => ?_)
  obtain ⟨s3_0, rfl, f3_0⟩ := hv3
  have hfa4 := runEncode_len exR
  obtain ⟨A3_0, c3_0, eq3_0, l3_0, k3_0⟩ := f3_0.slice
  subst eq3_0
  simp only [maxLen] at k3_0
  refine VO.mv ?_
  refine VO.y rfl (.ext rfl rfl) ?_
  refine VO.y rfl (.ext rfl rfl) ?_
  refine VO.as ?_
  refine VO.as ?_
  refine VO.k3 0 1 2 ?_
  refine VC.rs ?_
  refine VO.callN 105 rfl fnOk10 rfl (fun W hW => dNew_ok W ) (fun v5 m5 hv5 => ?_)
  obtain ⟨s5_0, rfl, f5_0⟩ := hv5
  have hfa6 := okD_new
  have hfa7 := (show wD newD = 0 from rfl)
  by_cases hsp8 : (uOpen newD).2 = 0
  · -- T
    refine VO.call 105 rfl fnOk9 rfl rfl (fun W hW => uOpenY_ok W (hW.at (i := 105) rfl) f5_0 (by assumption) (by first | (simp only [ru0, ru0l, ru1, ru2, ru3, ruE, ruG1, ruG2, ruG3, ruG4, ruN1, ruC1, ruC2, ruC3]; decide +kernel) | decide +kernel) (by assumption)) (fun v9 m9 hv9 => ?_)
    obtain ⟨s9_0, rfl, f9_0⟩ := hv9
    have hfa10 := (uopen_ok (show okD newD by assumption))
    have hfa11 := (uopen_w (show okD newD by assumption))
    have hfa12 := (runF_ok (dRead newD 2).1).1
    refine VO.mv ?_
    refine VO.y rfl (.ext rfl rfl) ?_
    refine VO.y rfl (.ext rfl rfl) ?_
    refine VO.as ?_
    refine VO.as ?_
    refine VO.kp [105, 103, 0] [(105, m9), (103, m3), (0, wm W)] ?_
    refine VO.k5 0 1 2 3 4 ?_
    refine VC.seq ?_
    refine VC.rs ?_
    refine VO.mv ?_
    refine VO.y rfl (.neq rfl rfl) ?_
    refine VO.mv ?_
    refine VO.dec (t := 20) rfl (fun hc13 => ?_) (fun hc13 => ?_)
    · -- TT
      first | exact absurd rfl hc13 | exact absurd (by first | rfl | decide | (simp only [ru0, ru0l, ru1, ru2, ru3, ruE, ruG1, ruG2, ruG3, ruG4, ruN1, ruC1, ruC2, ruC3]; first | done | rfl | decide | omega)) hc13 | exact absurd hc13 (by first | decide | (simp only [ru0, ru0l, ru1, ru2, ru3, ruE, ruG1, ruG2, ruG3, ruG4, ruN1, ruC1, ruC2, ruC3]; first | done | rfl | decide | omega)) | (simp only [ru0, ru0l, ru1, ru2, ru3, ruE, ruG1, ruG2, ruG3, ruG4, ruN1, ruC1, ruC2, ruC3] at hc13; first | done | exact absurd hc13 (by decide) | exact absurd rfl hc13)
    · -- TF
      refine VO.gy rfl ⟨_, rfl, rfl⟩ (.mv rfl) ?_
      refine VO.gy rfl ⟨_, rfl, rfl⟩ (.neq rfl rfl) ?_
      refine VO.y rfl (.pF rfl rfl) ?_
      refine VO.mv ?_
      refine VO.dec (t := 24) rfl (fun hc14 => ?_) (fun hc14 => ?_)
      · -- TFT
        first | exact absurd rfl hc14 | exact absurd (by first | rfl | decide | (simp only [ru0, ru0l, ru1, ru2, ru3, ruE, ruG1, ruG2, ruG3, ruG4, ruN1, ruC1, ruC2, ruC3]; first | done | rfl | decide | omega)) hc14 | exact absurd hc14 (by first | decide | (simp only [ru0, ru0l, ru1, ru2, ru3, ruE, ruG1, ruG2, ruG3, ruG4, ruN1, ruC1, ruC2, ruC3]; first | done | rfl | decide | omega)) | (simp only [ru0, ru0l, ru1, ru2, ru3, ruE, ruG1, ruG2, ruG3, ruG4, ruN1, ruC1, ruC2, ruC3] at hc14; first | done | exact absurd hc14 (by decide) | exact absurd rfl hc14)
      · -- TFF
        refine VO.gy rfl ⟨_, rfl, rfl⟩ (.mv rfl) ?_
        refine VO.gy rfl ⟨_, rfl, rfl⟩ (.pnil rfl rfl Try.underlying23 rfl) ?_
        refine VO.y rfl (.pF rfl rfl) ?_
        refine VO.mv ?_
        refine VO.gy rfl ⟨_, rfl, rfl⟩ (.mv rfl) ?_
        refine VO.gbsl (cs := [Value.int .u8 (1), Value.int .u8 (2), Value.int .u8 (2), Value.int .u8 (0), Value.int .u8 (1), Value.int .u8 (97), Value.int .u8 (1), Value.int .u8 (1), Value.int .u8 (98), Value.int .u8 (1), Value.int .u8 (49)]) 116 rfl ⟨_, rfl, rfl⟩ rfl tsl38 tz5 rfl rfl (fun g15 => ?_)
        have ho18 : OwnL .byte (mone g15 (.cells [Value.int .u8 (1), Value.int .u8 (2), Value.int .u8 (2), Value.int .u8 (0), Value.int .u8 (1), Value.int .u8 (97), Value.int .u8 (1), Value.int .u8 (1), Value.int .u8 (98), Value.int .u8 (1), Value.int .u8 (49)].toArray 5 (0, 0))) mnil (Value.slice (some ⟨g15, 0, none⟩) (11) (11)) [UInt8.ofNat 1, UInt8.ofNat 2, UInt8.ofNat 2, UInt8.ofNat 0, UInt8.ofNat 1, UInt8.ofNat 97, UInt8.ofNat 1, UInt8.ofNat 1, UInt8.ofNat 98, UInt8.ofNat 1, UInt8.ofNat 49] := OwnL.lit 11 (All2c.cons (c1 := [Value.int .u8 (1)]) (rd_byteN bd) (All2c.cons (c1 := [Value.int .u8 (2)]) (rd_byteN bd) (All2c.cons (c1 := [Value.int .u8 (2)]) (rd_byteN bd) (All2c.cons (c1 := [Value.int .u8 (0)]) (rd_byteN bd) (All2c.cons (c1 := [Value.int .u8 (1)]) (rd_byteN bd) (All2c.cons (c1 := [Value.int .u8 (97)]) (rd_byteN bd) (All2c.cons (c1 := [Value.int .u8 (1)]) (rd_byteN bd) (All2c.cons (c1 := [Value.int .u8 (1)]) (rd_byteN bd) (All2c.cons (c1 := [Value.int .u8 (98)]) (rd_byteN bd) (All2c.cons (c1 := [Value.int .u8 (1)]) (rd_byteN bd) (All2c.cons (c1 := [Value.int .u8 (49)]) (rd_byteN bd) All2c.nil))))))))))) rfl rfl
        refine VO.gcallN 117 rfl ⟨_, rfl, rfl⟩ fnOk22 rfl (fun W hW => SameBytes_ok W (OwnL.rd (Ow.ownl f3_0 rfl mnil) (hW.at (i := 103) rfl) (mle_nil _)) (OwnL.rd ho18 (hW.at (i := 116) rfl) (mle_nil _))) (fun v17 m17 hv17 => ?_)
        subst hv17
        refine VO.gy rfl ⟨_, rfl, rfl⟩ (.notD rfl) ?_
        refine VO.y rfl (.pF rfl rfl) ?_
        refine VO.mv ?_
        refine VO.dec (t := 34) rfl (fun hc19 => ?_) (fun hc19 => ?_)
        · -- TFFT
          first | exact absurd rfl hc19 | exact absurd (by first | rfl | decide | (simp only [ru0, ru0l, ru1, ru2, ru3, ruE, ruG1, ruG2, ruG3, ruG4, ruN1, ruC1, ruC2, ruC3]; first | done | rfl | decide | omega)) hc19 | exact absurd hc19 (by first | decide | (simp only [ru0, ru0l, ru1, ru2, ru3, ruE, ruG1, ruG2, ruG3, ruG4, ruN1, ruC1, ruC2, ruC3]; first | done | rfl | decide | omega)) | (simp only [ru0, ru0l, ru1, ru2, ru3, ruE, ruG1, ruG2, ruG3, ruG4, ruN1, ruC1, ruC2, ruC3] at hc19; first | done | exact absurd hc19 (by decide) | exact absurd rfl hc19)
        · -- TFFF
          refine VO.gy rfl ⟨_, rfl, rfl⟩ (.mv rfl) ?_
          refine VO.gcallN 120 rfl ⟨_, rfl, rfl⟩ fnOk12 rfl (fun W hW => example13_ok W ) (fun v20 m20 hv20 => ?_)
          obtain ⟨s20_0, rfl, f20_0⟩ := hv20
          obtain ⟨q20_0_A2, q20_0_c2, q20_0_n2, rfl, q20_0_S, q20_0_0, q20_0_1, q20_0_2⟩ := openO_Run (x0 := exR.1) (x1 := exR.2.1) (x2 := exR.2.2) f20_0
          simp only [inK] at q20_0_0
          simp only [inK] at q20_0_1
          have q20_0_r2 := q20_0_2.rm
          refine VO.inv _ (fun _ h => h.parts (i := 120) rfl q20_0_S [121]) ?_
          refine VO.gcall 105 rfl ⟨_, rfl, rfl⟩ fnOk11 rfl rfl (fun W hW => uFlush_ok W (hW.at (i := 105) rfl) f9_0 (show Rd TRun _ _ exR from (mk_Run (m := mout (wm W) (m9)) exR.1 exR.2.1 exR.2.2 bdk bdk (OwnL.rd (Ow.ownl q20_0_2 rfl mnil) (hW.out (i := 105) (j := 121) rfl rfl) (mle_nil _)))) (by assumption) (by first | (simp only [ru0, ru0l, ru1, ru2, ru3, ruE, ruG1, ruG2, ruG3, ruG4, ruN1, ruC1, ruC2, ruC3]; decide +kernel) | decide +kernel) (by assumption)) (fun v22 m22 hv22 => ?_)
          try dsimp only at hv22
          obtain ⟨rfl, w22_0⟩ := hv22
          have hfa23 := (flush_ok (br := false) (l := ((runF (dRead newD 2).1).1)) (x := exR) (show okD ((uOpen newD).1) by assumption))
          have hfa24 := (flush_w (br := false) (l := ((runF (dRead newD 2).1).1)) (x := exR) (show okD ((uOpen newD).1) by assumption))
          have hfa25 := (flush_okU (d := ((uOpen newD).1)) (br := false) (x := exR) (show okU ((runF (dRead newD 2).1).1) by assumption))
          refine VO.gy rfl ⟨_, rfl, rfl⟩ (.neq rfl rfl) ?_
          refine VO.y rfl (.pF rfl rfl) ?_
          refine VO.k6 0 1 2 3 4 39 ?_
          refine VC.cond rfl (fun hc26 => ?_) (fun hc26 => ?_)
          · -- TFFFT
            first | exact absurd rfl hc26 | exact absurd (by first | rfl | decide | (simp only [ru0, ru0l, ru1, ru2, ru3, ruE, ruG1, ruG2, ruG3, ruG4, ruN1, ruC1, ruC2, ruC3]; first | done | rfl | decide | omega)) hc26 | exact absurd hc26 (by first | decide | (simp only [ru0, ru0l, ru1, ru2, ru3, ruE, ruG1, ruG2, ruG3, ruG4, ruN1, ruC1, ruC2, ruC3]; first | done | rfl | decide | omega)) | (simp only [ru0, ru0l, ru1, ru2, ru3, ruE, ruG1, ruG2, ruG3, ruG4, ruN1, ruC1, ruC2, ruC3] at hc26; first | done | exact absurd hc26 (by decide) | exact absurd rfl hc26)
          · -- TFFFF
            refine VC.skip ?_
            refine outN ?_
            refine VC.rs ?_
            refine VO.mv ?_
            obtain ⟨q28_E, q28_A2, q28_c2, q28_n0, q28_n2, _, q28_S, q28_0, q28_2⟩ := openP_runRuns (x0 := (s5_0, (uFlush ((uOpen newD).1) false ((runF (dRead newD 2).1).1) exR).1.1)) (x1 := (uFlush ((uOpen newD).1) false ((runF (dRead newD 2).1).1) exR).1.2.1) (x2 := (uFlush ((uOpen newD).1) false ((runF (dRead newD 2).1).1) exR).1.2.2) w22_0
            dsimp only at q28_0
            have q28_r2 := q28_2.rm
            refine VO.inv _ (fun _ h => h.parts (i := 105) rfl q28_S [131, 129, 130]) ?_
            refine VO.call 131 rfl fnOk13 rfl rfl (fun W hW => uGet_ok W (d0 := ((some s5_0), (uFlush ((uOpen newD).1) false ((runF (dRead newD 2).1).1) exR).1.2)) (hW.at (i := 131) rfl) (Ow.rd q28_2 (hW.out (i := 131) (j := 130) rfl rfl)) ([98]) bdm (by assumption) (by first | assumption | simp)) (fun v27 m27 hv27 => ?_)
            try dsimp only at hv27
            obtain ⟨rfl, rfl⟩ := hv27
            refine VO.mv ?_
            refine VO.y rfl (.ext rfl rfl) ?_
            refine VO.y rfl (.ext rfl rfl) ?_
            refine VO.y rfl (.ext rfl rfl) ?_
            refine VO.as ?_
            refine VO.as ?_
            refine VO.as ?_
            refine VO.clsP 132 [131, 129, 130] rfl (fun hg32 => (mkP_runRuns (s5_0, (uFlush ((uOpen newD).1) false ((runF (dRead newD 2).1).1) exR).1.1) ((uFlush ((uOpen newD).1) false ((runF (dRead newD 2).1).1) exR).1.2.1) ((uFlush ((uOpen newD).1) false ((runF (dRead newD 2).1).1) exR).1.2.2) hg32 q28_0 q28_2)) (fun mc32 ho32 => ?_)
            refine VO.k9 0 1 2 3 4 5 6 7 39 ?_
            refine VC.rs ?_
            refine VO.mv ?_
            refine VO.call 132 rfl fnOk28 rfl rfl (fun W hW => uEnd_ok W (hW.at (i := 132) rfl) ho32 (by assumption)) (fun v33 m33 hv33 => ?_)
            try dsimp only at hv33
            obtain ⟨rfl, w33_0⟩ := hv33
            refine VO.y rfl (.eql rfl rfl) ?_
            refine VO.mv ?_
            refine VO.dec (t := 49) rfl (fun hc34 => ?_) (fun hc34 => ?_)
            · -- TFFFFT
              refine VO.gy rfl ⟨_, rfl, rfl⟩ (.mv rfl) ?_
              refine VO.gy rfl ⟨_, rfl, rfl⟩ (.seql rfl rfl) ?_
              refine VO.y rfl (.pT rfl rfl) ?_
              refine VO.mv ?_
              refine VO.dec (t := 53) rfl (fun hc35 => ?_) (fun hc35 => ?_)
              · -- TFFFFTT
                refine VO.gy rfl ⟨_, rfl, rfl⟩ (.mv rfl) ?_
                refine VO.y rfl (.pT rfl rfl) ?_
                refine VO.mv ?_
                refine VO.decB (t := 56) rfl (fun hc36 => ?_) (fun hc36 => ?_)
                · -- TFFFFTTT
                  refine VO.gy rfl ⟨_, rfl, rfl⟩ (.mv rfl) ?_
                  refine VO.y rfl (.pT rfl rfl) ?_
                  refine VO.as ?_
                  refine VO.kp [132, 103, 0] [(132, m33), (103, m3), (0, wm W)] ?_
                  refine VO.k9 0 1 2 3 4 5 6 7 39 ?_
                  refine VC.ret ?_
                  refine ⟨_, _, res_run (rs := [.tmp 0]) rfl (.tmp rfl .nil), fun W_ hI => out_of (l := []) hI [] rfl rfl (mle_refl _) (fun hS_ => ?_)⟩
                  dsimp only [packV]
                  all_goals (first | rfl | (first | exact congrArg Value.bool (decide_eq_true (by (simp only [ru0, ru0l, ru1, ru2, ru3, ruE, ruG1, ruG2, ruG3, ruG4, ruN1, ruC1, ruC2, ruC3]; first | done | rfl | decide | omega))) | (show Value.bool _ = Value.bool true; simp only [ru0, ru0l, ru1, ru2, ru3, ruE, ruG1, ruG2, ruG3, ruG4, ruN1, ruC1, ruC2, ruC3]; done) | rfl))
                · -- TFFFFTTF
                  first | exact absurd rfl hc36 | exact absurd (by first | rfl | decide | (simp only [ru0, ru0l, ru1, ru2, ru3, ruE, ruG1, ruG2, ruG3, ruG4, ruN1, ruC1, ruC2, ruC3]; first | done | rfl | decide | omega)) hc36 | exact absurd hc36 (by first | decide | (simp only [ru0, ru0l, ru1, ru2, ru3, ruE, ruG1, ruG2, ruG3, ruG4, ruN1, ruC1, ruC2, ruC3]; first | done | rfl | decide | omega)) | (simp only [ru0, ru0l, ru1, ru2, ru3, ruE, ruG1, ruG2, ruG3, ruG4, ruN1, ruC1, ruC2, ruC3] at hc36; first | done | exact absurd hc36 (by decide) | exact absurd rfl hc36)
              · -- TFFFFTF
                first | exact absurd rfl hc35 | exact absurd (by first | rfl | decide | (simp only [ru0, ru0l, ru1, ru2, ru3, ruE, ruG1, ruG2, ruG3, ruG4, ruN1, ruC1, ruC2, ruC3]; first | done | rfl | decide | omega)) hc35 | exact absurd hc35 (by first | decide | (simp only [ru0, ru0l, ru1, ru2, ru3, ruE, ruG1, ruG2, ruG3, ruG4, ruN1, ruC1, ruC2, ruC3]; first | done | rfl | decide | omega)) | (simp only [ru0, ru0l, ru1, ru2, ru3, ruE, ruG1, ruG2, ruG3, ruG4, ruN1, ruC1, ruC2, ruC3] at hc35; first | done | exact absurd hc35 (by decide) | exact absurd rfl hc35)
            · -- TFFFFF
              first | exact absurd rfl hc34 | exact absurd (by first | rfl | decide | (simp only [ru0, ru0l, ru1, ru2, ru3, ruE, ruG1, ruG2, ruG3, ruG4, ruN1, ruC1, ruC2, ruC3]; first | done | rfl | decide | omega)) hc34 | exact absurd hc34 (by first | decide | (simp only [ru0, ru0l, ru1, ru2, ru3, ruE, ruG1, ruG2, ruG3, ruG4, ruN1, ruC1, ruC2, ruC3]; first | done | rfl | decide | omega)) | (simp only [ru0, ru0l, ru1, ru2, ru3, ruE, ruG1, ruG2, ruG3, ruG4, ruN1, ruC1, ruC2, ruC3] at hc34; first | done | exact absurd hc34 (by decide) | exact absurd rfl hc34)
  · -- F
    first | exact absurd rfl hsp8 | exact absurd (by first | rfl | decide | (simp only [ru0, ru0l, ru1, ru2, ru3, ruE, ruG1, ruG2, ruG3, ruG4, ruN1, ruC1, ruC2, ruC3]; first | done | rfl | decide | omega)) hsp8 | exact absurd hsp8 (by first | decide | (simp only [ru0, ru0l, ru1, ru2, ru3, ruE, ruG1, ruG2, ruG3, ruG4, ruN1, ruC1, ruC2, ruC3]; first | done | rfl | decide | omega)) | (simp only [ru0, ru0l, ru1, ru2, ru3, ruE, ruG1, ruG2, ruG3, ruG4, ruN1, ruC1, ruC2, ruC3] at hsp8; first | done | exact absurd hsp8 (by decide) | exact absurd rfl hsp8)
theorem fnOk8 : fnOk Try.prog 8 = true := by kernel_rfl
set_option maxHeartbeats 4000000 in
theorem runNames_ok (W : World) : CallR Try.prog 3 [] W (mnil) (fun v m' => v = .bool true) := by
  refine CallR.ofA (n := 116) Try.func3 rfl rfl rfl ?_
  refine VC.rs ?_
  refine VO.as ?_
  refine VO.k1 0 ?_
  refine VC.seq ?_
  refine VC.rs ?_
  refine VO.callN 101 rfl fnOk8 rfl (fun W hW => lives13_ok W ) (fun v1 m1 hv1 => ?_)
  subst hv1
  refine VO.y rfl (.not rfl) ?_
  refine VO.mv ?_
  refine VO.y rfl (.pF rfl rfl) ?_
  refine VO.mv ?_
  refine VO.y rfl (.pF rfl rfl) ?_
  refine VO.mv ?_
  refine VO.y rfl (.pF rfl rfl) ?_
  refine VO.mv ?_
  refine VO.y rfl (.pF rfl rfl) ?_
  refine VO.mv ?_
  refine VO.y rfl (.pF rfl rfl) ?_
  refine VO.mv ?_
  refine VO.y rfl (.pF rfl rfl) ?_
  refine VO.mv ?_
  refine VO.y rfl (.pF rfl rfl) ?_
  refine VO.mv ?_
  refine VO.y rfl (.pF rfl rfl) ?_
  refine VO.k2 0 30 ?_
  refine VC.condF rfl ?_
  refine VC.skip ?_
  refine outN ?_
  refine VC.rs ?_
  refine VO.callN 102 rfl fnOk10 rfl (fun W hW => dNew_ok W ) (fun v2 m2 hv2 => ?_)
  obtain ⟨s2_0, rfl, f2_0⟩ := hv2
  have hfa3 := okD_new
  have hfa4 := (show wD newD = 0 from rfl)
  by_cases hsp5 : (uOpen newD).2 = 0
  · -- T
    refine VO.call 102 rfl fnOk9 rfl rfl (fun W hW => uOpenY_ok W (hW.at (i := 102) rfl) f2_0 (by assumption) (by first | (simp only [ru0, ru0l, ru1, ru2, ru3, ruE, ruG1, ruG2, ruG3, ruG4, ruN1, ruC1, ruC2, ruC3]; decide +kernel) | decide +kernel) (by assumption)) (fun v6 m6 hv6 => ?_)
    obtain ⟨s6_0, rfl, f6_0⟩ := hv6
    have hfa7 := (uopen_ok (show okD newD by assumption))
    have hfa8 := (uopen_w (show okD newD by assumption))
    have hfa9 := (runF_ok (dRead newD 2).1).1
    refine VO.mv ?_
    refine VO.y rfl (.ext rfl rfl) ?_
    refine VO.y rfl (.ext rfl rfl) ?_
    refine VO.as ?_
    refine VO.as ?_
    refine VO.kp [102, 0] [(102, m6), (0, wm W)] ?_
    refine VO.k4 0 1 2 30 ?_
    refine VC.seq ?_
    refine VC.rs ?_
    refine VO.mv ?_
    refine VO.y rfl (.neq rfl rfl) ?_
    refine VO.mv ?_
    refine VO.dec (t := 38) rfl (fun hc10 => ?_) (fun hc10 => ?_)
    · -- TT
      first | exact absurd rfl hc10 | exact absurd (by first | rfl | decide | (simp only [ru0, ru0l, ru1, ru2, ru3, ruE, ruG1, ruG2, ruG3, ruG4, ruN1, ruC1, ruC2, ruC3]; first | done | rfl | decide | omega)) hc10 | exact absurd hc10 (by first | decide | (simp only [ru0, ru0l, ru1, ru2, ru3, ruE, ruG1, ruG2, ruG3, ruG4, ruN1, ruC1, ruC2, ruC3]; first | done | rfl | decide | omega)) | (simp only [ru0, ru0l, ru1, ru2, ru3, ruE, ruG1, ruG2, ruG3, ruG4, ruN1, ruC1, ruC2, ruC3] at hc10; first | done | exact absurd hc10 (by decide) | exact absurd rfl hc10)
    · -- TF
      refine VO.gy rfl ⟨_, rfl, rfl⟩ (.mv rfl) ?_
      refine VO.gy rfl ⟨_, rfl, rfl⟩ (.pnil rfl rfl Try.underlying23 rfl) ?_
      refine VO.y rfl (.pF rfl rfl) ?_
      refine VO.mv ?_
      refine VO.gy rfl ⟨_, rfl, rfl⟩ (.mv rfl) ?_
      refine VO.gcallN 111 rfl ⟨_, rfl, rfl⟩ fnOk12 rfl (fun W hW => example13_ok W ) (fun v11 m11 hv11 => ?_)
      obtain ⟨s11_0, rfl, f11_0⟩ := hv11
      obtain ⟨q11_0_A2, q11_0_c2, q11_0_n2, rfl, q11_0_S, q11_0_0, q11_0_1, q11_0_2⟩ := openO_Run (x0 := exR.1) (x1 := exR.2.1) (x2 := exR.2.2) f11_0
      simp only [inK] at q11_0_0
      simp only [inK] at q11_0_1
      have q11_0_r2 := q11_0_2.rm
      refine VO.inv _ (fun _ h => h.parts (i := 111) rfl q11_0_S [112]) ?_
      refine VO.gcall 102 rfl ⟨_, rfl, rfl⟩ fnOk11 rfl rfl (fun W hW => uFlush_ok W (hW.at (i := 102) rfl) f6_0 (show Rd TRun _ _ exR from (mk_Run (m := mout (wm W) (m6)) exR.1 exR.2.1 exR.2.2 bdk bdk (OwnL.rd (Ow.ownl q11_0_2 rfl mnil) (hW.out (i := 102) (j := 112) rfl rfl) (mle_nil _)))) (by assumption) (by first | (simp only [ru0, ru0l, ru1, ru2, ru3, ruE, ruG1, ruG2, ruG3, ruG4, ruN1, ruC1, ruC2, ruC3]; decide +kernel) | decide +kernel) (by assumption)) (fun v13 m13 hv13 => ?_)
      try dsimp only at hv13
      obtain ⟨rfl, w13_0⟩ := hv13
      have hfa14 := (flush_ok (br := false) (l := ((runF (dRead newD 2).1).1)) (x := exR) (show okD ((uOpen newD).1) by assumption))
      have hfa15 := (flush_w (br := false) (l := ((runF (dRead newD 2).1).1)) (x := exR) (show okD ((uOpen newD).1) by assumption))
      have hfa16 := (flush_okU (d := ((uOpen newD).1)) (br := false) (x := exR) (show okU ((runF (dRead newD 2).1).1) by assumption))
      refine VO.gy rfl ⟨_, rfl, rfl⟩ (.neq rfl rfl) ?_
      refine VO.y rfl (.pF rfl rfl) ?_
      refine VO.mv ?_
      refine VO.dec (t := 48) rfl (fun hc17 => ?_) (fun hc17 => ?_)
      · -- TFT
        first | exact absurd rfl hc17 | exact absurd (by first | rfl | decide | (simp only [ru0, ru0l, ru1, ru2, ru3, ruE, ruG1, ruG2, ruG3, ruG4, ruN1, ruC1, ruC2, ruC3]; first | done | rfl | decide | omega)) hc17 | exact absurd hc17 (by first | decide | (simp only [ru0, ru0l, ru1, ru2, ru3, ruE, ruG1, ruG2, ruG3, ruG4, ruN1, ruC1, ruC2, ruC3]; first | done | rfl | decide | omega)) | (simp only [ru0, ru0l, ru1, ru2, ru3, ruE, ruG1, ruG2, ruG3, ruG4, ruN1, ruC1, ruC2, ruC3] at hc17; first | done | exact absurd hc17 (by decide) | exact absurd rfl hc17)
      · -- TFF
        refine VO.gy rfl ⟨_, rfl, rfl⟩ (.mv rfl) ?_
        refine VO.gy rfl ⟨_, rfl, rfl⟩ (.bst (cs := [Value.int .i64 (4), Value.int .i64 (4), Value.slice none (0) (0)]) rfl tst32 tz32 rfl) ?_
        refine VO.gcall 102 rfl ⟨_, rfl, rfl⟩ fnOk11 rfl rfl (fun W hW => uFlush_ok W (hW.at (i := 102) rfl) w13_0 (mk_Run (m := mout (wm W) (m13)) 4 4 [] bdk bdk (Rd.nil _ _ none 0 (Nat.zero_le _))) (by assumption) (by first | (simp only [ru0, ru0l, ru1, ru2, ru3, ruE, ruG1, ruG2, ruG3, ruG4, ruN1, ruC1, ruC2, ruC3]; decide +kernel) | decide +kernel) (by assumption)) (fun v18 m18 hv18 => ?_)
        try dsimp only at hv18
        obtain ⟨rfl, w18_0⟩ := hv18
        have hfa19 := (flush_ok (br := ((uFlush ((uOpen newD).1) false ((runF (dRead newD 2).1).1) exR).1.2.1)) (l := ((uFlush ((uOpen newD).1) false ((runF (dRead newD 2).1).1) exR).1.2.2)) (x := (4, 4, [])) (show okD ((uFlush ((uOpen newD).1) false ((runF (dRead newD 2).1).1) exR).1.1) by assumption))
        have hfa20 := (flush_w (br := ((uFlush ((uOpen newD).1) false ((runF (dRead newD 2).1).1) exR).1.2.1)) (l := ((uFlush ((uOpen newD).1) false ((runF (dRead newD 2).1).1) exR).1.2.2)) (x := (4, 4, [])) (show okD ((uFlush ((uOpen newD).1) false ((runF (dRead newD 2).1).1) exR).1.1) by assumption))
        have hfa21 := (flush_okU (d := ((uFlush ((uOpen newD).1) false ((runF (dRead newD 2).1).1) exR).1.1)) (br := ((uFlush ((uOpen newD).1) false ((runF (dRead newD 2).1).1) exR).1.2.1)) (x := (4, 4, [])) (show okU ((uFlush ((uOpen newD).1) false ((runF (dRead newD 2).1).1) exR).1.2.2) by assumption))
        refine VO.gy rfl ⟨_, rfl, rfl⟩ (.neq rfl rfl) ?_
        refine VO.y rfl (.pF rfl rfl) ?_
        refine VO.mv ?_
        refine VO.dec (t := 54) rfl (fun hc22 => ?_) (fun hc22 => ?_)
        · -- TFFT
          first | exact absurd rfl hc22 | exact absurd (by first | rfl | decide | (simp only [ru0, ru0l, ru1, ru2, ru3, ruE, ruG1, ruG2, ruG3, ruG4, ruN1, ruC1, ruC2, ruC3]; first | done | rfl | decide | omega)) hc22 | exact absurd hc22 (by first | decide | (simp only [ru0, ru0l, ru1, ru2, ru3, ruE, ruG1, ruG2, ruG3, ruG4, ruN1, ruC1, ruC2, ruC3]; first | done | rfl | decide | omega)) | (simp only [ru0, ru0l, ru1, ru2, ru3, ruE, ruG1, ruG2, ruG3, ruG4, ruN1, ruC1, ruC2, ruC3] at hc22; first | done | exact absurd hc22 (by decide) | exact absurd rfl hc22)
        · -- TFFF
          refine VO.gy rfl ⟨_, rfl, rfl⟩ (.mv rfl) ?_
          refine VO.gy rfl ⟨_, rfl, rfl⟩ (.bst (cs := [Value.bool true, str ([97]), str ([57])]) rfl tst35 tz35 rfl) ?_
          refine VO.gbsl (cs := [Value.bool true, str ([97]), str ([57])]) 124 rfl ⟨_, rfl, rfl⟩ rfl tsl30 tz35 rfl rfl (fun g23 => ?_)
          refine VO.gy rfl ⟨_, rfl, rfl⟩ (.bst (cs := [Value.int .i64 (3), Value.int .i64 (3), Value.slice (some ⟨g23, 0, none⟩) (1) (1)]) rfl tst32 tz32 rfl) ?_
          have ho26 : OwnL TOp (mone g23 (.cells [Value.bool true, str ([97]), str ([57])].toArray 35 (0, 0))) mnil (Value.slice (some ⟨g23, 0, none⟩) (1) (1)) [(true, [97], [57])] := OwnL.lit 1 (All2c.cons (c1 := [Value.bool true, str ([97]), str ([57])]) (mk_Op (m := _) true ([97]) ([57]) bdm bdm) All2c.nil) rfl rfl
          refine VO.gcall 102 rfl ⟨_, rfl, rfl⟩ fnOk11 rfl rfl (fun W hW => uFlush_ok W (hW.at (i := 102) rfl) w18_0 (mk_Run (m := mout (wm W) (m18)) 3 3 ([(true, [97], [57])]) bdk bdk (OwnL.rd ho26 (hW.out (i := 102) (j := 124) rfl rfl) (mle_nil _))) (by assumption) (by first | (simp only [ru0, ru0l, ru1, ru2, ru3, ruE, ruG1, ruG2, ruG3, ruG4, ruN1, ruC1, ruC2, ruC3]; decide +kernel) | decide +kernel) (by assumption)) (fun v25 m25 hv25 => ?_)
          try dsimp only at hv25
          obtain ⟨rfl, w25_0⟩ := hv25
          have hfa27 := (flush_ok (br := ((uFlush ((uFlush ((uOpen newD).1) false ((runF (dRead newD 2).1).1) exR).1.1) ((uFlush ((uOpen newD).1) false ((runF (dRead newD 2).1).1) exR).1.2.1) ((uFlush ((uOpen newD).1) false ((runF (dRead newD 2).1).1) exR).1.2.2) (4, 4, [])).1.2.1)) (l := ((uFlush ((uFlush ((uOpen newD).1) false ((runF (dRead newD 2).1).1) exR).1.1) ((uFlush ((uOpen newD).1) false ((runF (dRead newD 2).1).1) exR).1.2.1) ((uFlush ((uOpen newD).1) false ((runF (dRead newD 2).1).1) exR).1.2.2) (4, 4, [])).1.2.2)) (x := (3, 3, [(true, [97], [57])])) (show okD ((uFlush ((uFlush ((uOpen newD).1) false ((runF (dRead newD 2).1).1) exR).1.1) ((uFlush ((uOpen newD).1) false ((runF (dRead newD 2).1).1) exR).1.2.1) ((uFlush ((uOpen newD).1) false ((runF (dRead newD 2).1).1) exR).1.2.2) (4, 4, [])).1.1) by assumption))
          have hfa28 := (flush_w (br := ((uFlush ((uFlush ((uOpen newD).1) false ((runF (dRead newD 2).1).1) exR).1.1) ((uFlush ((uOpen newD).1) false ((runF (dRead newD 2).1).1) exR).1.2.1) ((uFlush ((uOpen newD).1) false ((runF (dRead newD 2).1).1) exR).1.2.2) (4, 4, [])).1.2.1)) (l := ((uFlush ((uFlush ((uOpen newD).1) false ((runF (dRead newD 2).1).1) exR).1.1) ((uFlush ((uOpen newD).1) false ((runF (dRead newD 2).1).1) exR).1.2.1) ((uFlush ((uOpen newD).1) false ((runF (dRead newD 2).1).1) exR).1.2.2) (4, 4, [])).1.2.2)) (x := (3, 3, [(true, [97], [57])])) (show okD ((uFlush ((uFlush ((uOpen newD).1) false ((runF (dRead newD 2).1).1) exR).1.1) ((uFlush ((uOpen newD).1) false ((runF (dRead newD 2).1).1) exR).1.2.1) ((uFlush ((uOpen newD).1) false ((runF (dRead newD 2).1).1) exR).1.2.2) (4, 4, [])).1.1) by assumption))
          have hfa29 := (flush_okU (d := ((uFlush ((uFlush ((uOpen newD).1) false ((runF (dRead newD 2).1).1) exR).1.1) ((uFlush ((uOpen newD).1) false ((runF (dRead newD 2).1).1) exR).1.2.1) ((uFlush ((uOpen newD).1) false ((runF (dRead newD 2).1).1) exR).1.2.2) (4, 4, [])).1.1)) (br := ((uFlush ((uFlush ((uOpen newD).1) false ((runF (dRead newD 2).1).1) exR).1.1) ((uFlush ((uOpen newD).1) false ((runF (dRead newD 2).1).1) exR).1.2.1) ((uFlush ((uOpen newD).1) false ((runF (dRead newD 2).1).1) exR).1.2.2) (4, 4, [])).1.2.1)) (x := (3, 3, [(true, [97], [57])])) (show okU ((uFlush ((uFlush ((uOpen newD).1) false ((runF (dRead newD 2).1).1) exR).1.1) ((uFlush ((uOpen newD).1) false ((runF (dRead newD 2).1).1) exR).1.2.1) ((uFlush ((uOpen newD).1) false ((runF (dRead newD 2).1).1) exR).1.2.2) (4, 4, [])).1.2.2) by assumption))
          refine VO.gy rfl ⟨_, rfl, rfl⟩ (.neq rfl rfl) ?_
          refine VO.y rfl (.pF rfl rfl) ?_
          refine VO.k5 0 1 2 30 61 ?_
          refine VC.cond rfl (fun hc30 => ?_) (fun hc30 => ?_)
          · -- TFFFT
            first | exact absurd rfl hc30 | exact absurd (by first | rfl | decide | (simp only [ru0, ru0l, ru1, ru2, ru3, ruE, ruG1, ruG2, ruG3, ruG4, ruN1, ruC1, ruC2, ruC3]; first | done | rfl | decide | omega)) hc30 | exact absurd hc30 (by first | decide | (simp only [ru0, ru0l, ru1, ru2, ru3, ruE, ruG1, ruG2, ruG3, ruG4, ruN1, ruC1, ruC2, ruC3]; first | done | rfl | decide | omega)) | (simp only [ru0, ru0l, ru1, ru2, ru3, ruE, ruG1, ruG2, ruG3, ruG4, ruN1, ruC1, ruC2, ruC3] at hc30; first | done | exact absurd hc30 (by decide) | exact absurd rfl hc30)
          · -- TFFFF
            refine VC.skip ?_
            refine outN ?_
            refine VC.rs ?_
            refine VO.mv ?_
            obtain ⟨q32_E, q32_A2, q32_c2, q32_n0, q32_n2, _, q32_S, q32_0, q32_2⟩ := openP_runRuns (x0 := (s2_0, (uFlush ((uFlush ((uFlush ((uOpen newD).1) false ((runF (dRead newD 2).1).1) exR).1.1) ((uFlush ((uOpen newD).1) false ((runF (dRead newD 2).1).1) exR).1.2.1) ((uFlush ((uOpen newD).1) false ((runF (dRead newD 2).1).1) exR).1.2.2) (4, 4, [])).1.1) ((uFlush ((uFlush ((uOpen newD).1) false ((runF (dRead newD 2).1).1) exR).1.1) ((uFlush ((uOpen newD).1) false ((runF (dRead newD 2).1).1) exR).1.2.1) ((uFlush ((uOpen newD).1) false ((runF (dRead newD 2).1).1) exR).1.2.2) (4, 4, [])).1.2.1) ((uFlush ((uFlush ((uOpen newD).1) false ((runF (dRead newD 2).1).1) exR).1.1) ((uFlush ((uOpen newD).1) false ((runF (dRead newD 2).1).1) exR).1.2.1) ((uFlush ((uOpen newD).1) false ((runF (dRead newD 2).1).1) exR).1.2.2) (4, 4, [])).1.2.2) (3, 3, [(true, [97], [57])])).1.1)) (x1 := (uFlush ((uFlush ((uFlush ((uOpen newD).1) false ((runF (dRead newD 2).1).1) exR).1.1) ((uFlush ((uOpen newD).1) false ((runF (dRead newD 2).1).1) exR).1.2.1) ((uFlush ((uOpen newD).1) false ((runF (dRead newD 2).1).1) exR).1.2.2) (4, 4, [])).1.1) ((uFlush ((uFlush ((uOpen newD).1) false ((runF (dRead newD 2).1).1) exR).1.1) ((uFlush ((uOpen newD).1) false ((runF (dRead newD 2).1).1) exR).1.2.1) ((uFlush ((uOpen newD).1) false ((runF (dRead newD 2).1).1) exR).1.2.2) (4, 4, [])).1.2.1) ((uFlush ((uFlush ((uOpen newD).1) false ((runF (dRead newD 2).1).1) exR).1.1) ((uFlush ((uOpen newD).1) false ((runF (dRead newD 2).1).1) exR).1.2.1) ((uFlush ((uOpen newD).1) false ((runF (dRead newD 2).1).1) exR).1.2.2) (4, 4, [])).1.2.2) (3, 3, [(true, [97], [57])])).1.2.1) (x2 := (uFlush ((uFlush ((uFlush ((uOpen newD).1) false ((runF (dRead newD 2).1).1) exR).1.1) ((uFlush ((uOpen newD).1) false ((runF (dRead newD 2).1).1) exR).1.2.1) ((uFlush ((uOpen newD).1) false ((runF (dRead newD 2).1).1) exR).1.2.2) (4, 4, [])).1.1) ((uFlush ((uFlush ((uOpen newD).1) false ((runF (dRead newD 2).1).1) exR).1.1) ((uFlush ((uOpen newD).1) false ((runF (dRead newD 2).1).1) exR).1.2.1) ((uFlush ((uOpen newD).1) false ((runF (dRead newD 2).1).1) exR).1.2.2) (4, 4, [])).1.2.1) ((uFlush ((uFlush ((uOpen newD).1) false ((runF (dRead newD 2).1).1) exR).1.1) ((uFlush ((uOpen newD).1) false ((runF (dRead newD 2).1).1) exR).1.2.1) ((uFlush ((uOpen newD).1) false ((runF (dRead newD 2).1).1) exR).1.2.2) (4, 4, [])).1.2.2) (3, 3, [(true, [97], [57])])).1.2.2) w25_0
            dsimp only at q32_0
            have q32_r2 := q32_2.rm
            refine VO.inv _ (fun _ h => h.parts (i := 102) rfl q32_S [135, 133, 134]) ?_
            refine VO.call 135 rfl fnOk13 rfl rfl (fun W hW => uGet_ok W (d0 := ((some s2_0), (uFlush ((uFlush ((uFlush ((uOpen newD).1) false ((runF (dRead newD 2).1).1) exR).1.1) ((uFlush ((uOpen newD).1) false ((runF (dRead newD 2).1).1) exR).1.2.1) ((uFlush ((uOpen newD).1) false ((runF (dRead newD 2).1).1) exR).1.2.2) (4, 4, [])).1.1) ((uFlush ((uFlush ((uOpen newD).1) false ((runF (dRead newD 2).1).1) exR).1.1) ((uFlush ((uOpen newD).1) false ((runF (dRead newD 2).1).1) exR).1.2.1) ((uFlush ((uOpen newD).1) false ((runF (dRead newD 2).1).1) exR).1.2.2) (4, 4, [])).1.2.1) ((uFlush ((uFlush ((uOpen newD).1) false ((runF (dRead newD 2).1).1) exR).1.1) ((uFlush ((uOpen newD).1) false ((runF (dRead newD 2).1).1) exR).1.2.1) ((uFlush ((uOpen newD).1) false ((runF (dRead newD 2).1).1) exR).1.2.2) (4, 4, [])).1.2.2) (3, 3, [(true, [97], [57])])).1.2)) (hW.at (i := 135) rfl) (Ow.rd q32_2 (hW.out (i := 135) (j := 134) rfl rfl)) ([97]) bdm (by assumption) (by first | assumption | simp)) (fun v31 m31 hv31 => ?_)
            try dsimp only at hv31
            obtain ⟨rfl, rfl⟩ := hv31
            refine VO.mv ?_
            refine VO.y rfl (.ext rfl rfl) ?_
            refine VO.y rfl (.ext rfl rfl) ?_
            refine VO.y rfl (.ext rfl rfl) ?_
            refine VO.as ?_
            refine VO.as ?_
            refine VO.as ?_
            refine VO.clsP 136 [135, 133, 134] rfl (fun hg36 => (mkP_runRuns (s2_0, (uFlush ((uFlush ((uFlush ((uOpen newD).1) false ((runF (dRead newD 2).1).1) exR).1.1) ((uFlush ((uOpen newD).1) false ((runF (dRead newD 2).1).1) exR).1.2.1) ((uFlush ((uOpen newD).1) false ((runF (dRead newD 2).1).1) exR).1.2.2) (4, 4, [])).1.1) ((uFlush ((uFlush ((uOpen newD).1) false ((runF (dRead newD 2).1).1) exR).1.1) ((uFlush ((uOpen newD).1) false ((runF (dRead newD 2).1).1) exR).1.2.1) ((uFlush ((uOpen newD).1) false ((runF (dRead newD 2).1).1) exR).1.2.2) (4, 4, [])).1.2.1) ((uFlush ((uFlush ((uOpen newD).1) false ((runF (dRead newD 2).1).1) exR).1.1) ((uFlush ((uOpen newD).1) false ((runF (dRead newD 2).1).1) exR).1.2.1) ((uFlush ((uOpen newD).1) false ((runF (dRead newD 2).1).1) exR).1.2.2) (4, 4, [])).1.2.2) (3, 3, [(true, [97], [57])])).1.1) ((uFlush ((uFlush ((uFlush ((uOpen newD).1) false ((runF (dRead newD 2).1).1) exR).1.1) ((uFlush ((uOpen newD).1) false ((runF (dRead newD 2).1).1) exR).1.2.1) ((uFlush ((uOpen newD).1) false ((runF (dRead newD 2).1).1) exR).1.2.2) (4, 4, [])).1.1) ((uFlush ((uFlush ((uOpen newD).1) false ((runF (dRead newD 2).1).1) exR).1.1) ((uFlush ((uOpen newD).1) false ((runF (dRead newD 2).1).1) exR).1.2.1) ((uFlush ((uOpen newD).1) false ((runF (dRead newD 2).1).1) exR).1.2.2) (4, 4, [])).1.2.1) ((uFlush ((uFlush ((uOpen newD).1) false ((runF (dRead newD 2).1).1) exR).1.1) ((uFlush ((uOpen newD).1) false ((runF (dRead newD 2).1).1) exR).1.2.1) ((uFlush ((uOpen newD).1) false ((runF (dRead newD 2).1).1) exR).1.2.2) (4, 4, [])).1.2.2) (3, 3, [(true, [97], [57])])).1.2.1) ((uFlush ((uFlush ((uFlush ((uOpen newD).1) false ((runF (dRead newD 2).1).1) exR).1.1) ((uFlush ((uOpen newD).1) false ((runF (dRead newD 2).1).1) exR).1.2.1) ((uFlush ((uOpen newD).1) false ((runF (dRead newD 2).1).1) exR).1.2.2) (4, 4, [])).1.1) ((uFlush ((uFlush ((uOpen newD).1) false ((runF (dRead newD 2).1).1) exR).1.1) ((uFlush ((uOpen newD).1) false ((runF (dRead newD 2).1).1) exR).1.2.1) ((uFlush ((uOpen newD).1) false ((runF (dRead newD 2).1).1) exR).1.2.2) (4, 4, [])).1.2.1) ((uFlush ((uFlush ((uOpen newD).1) false ((runF (dRead newD 2).1).1) exR).1.1) ((uFlush ((uOpen newD).1) false ((runF (dRead newD 2).1).1) exR).1.2.1) ((uFlush ((uOpen newD).1) false ((runF (dRead newD 2).1).1) exR).1.2.2) (4, 4, [])).1.2.2) (3, 3, [(true, [97], [57])])).1.2.2) hg36 q32_0 q32_2)) (fun mc36 ho36 => ?_)
            refine VO.k7 0 1 2 3 5 30 61 ?_
            refine VC.rs ?_
            refine VO.mv ?_
            obtain ⟨q38_E, q38_A2, q38_c2, q38_n0, q38_n2, _, q38_S, q38_0, q38_2⟩ := openP_runRuns (x0 := (s2_0, (uFlush ((uFlush ((uFlush ((uOpen newD).1) false ((runF (dRead newD 2).1).1) exR).1.1) ((uFlush ((uOpen newD).1) false ((runF (dRead newD 2).1).1) exR).1.2.1) ((uFlush ((uOpen newD).1) false ((runF (dRead newD 2).1).1) exR).1.2.2) (4, 4, [])).1.1) ((uFlush ((uFlush ((uOpen newD).1) false ((runF (dRead newD 2).1).1) exR).1.1) ((uFlush ((uOpen newD).1) false ((runF (dRead newD 2).1).1) exR).1.2.1) ((uFlush ((uOpen newD).1) false ((runF (dRead newD 2).1).1) exR).1.2.2) (4, 4, [])).1.2.1) ((uFlush ((uFlush ((uOpen newD).1) false ((runF (dRead newD 2).1).1) exR).1.1) ((uFlush ((uOpen newD).1) false ((runF (dRead newD 2).1).1) exR).1.2.1) ((uFlush ((uOpen newD).1) false ((runF (dRead newD 2).1).1) exR).1.2.2) (4, 4, [])).1.2.2) (3, 3, [(true, [97], [57])])).1.1)) (x1 := ((uFlush ((uFlush ((uFlush ((uOpen newD).1) false ((runF (dRead newD 2).1).1) exR).1.1) ((uFlush ((uOpen newD).1) false ((runF (dRead newD 2).1).1) exR).1.2.1) ((uFlush ((uOpen newD).1) false ((runF (dRead newD 2).1).1) exR).1.2.2) (4, 4, [])).1.1) ((uFlush ((uFlush ((uOpen newD).1) false ((runF (dRead newD 2).1).1) exR).1.1) ((uFlush ((uOpen newD).1) false ((runF (dRead newD 2).1).1) exR).1.2.1) ((uFlush ((uOpen newD).1) false ((runF (dRead newD 2).1).1) exR).1.2.2) (4, 4, [])).1.2.1) ((uFlush ((uFlush ((uOpen newD).1) false ((runF (dRead newD 2).1).1) exR).1.1) ((uFlush ((uOpen newD).1) false ((runF (dRead newD 2).1).1) exR).1.2.1) ((uFlush ((uOpen newD).1) false ((runF (dRead newD 2).1).1) exR).1.2.2) (4, 4, [])).1.2.2) (3, 3, [(true, [97], [57])])).1.2.1)) (x2 := (uFlush ((uFlush ((uFlush ((uOpen newD).1) false ((runF (dRead newD 2).1).1) exR).1.1) ((uFlush ((uOpen newD).1) false ((runF (dRead newD 2).1).1) exR).1.2.1) ((uFlush ((uOpen newD).1) false ((runF (dRead newD 2).1).1) exR).1.2.2) (4, 4, [])).1.1) ((uFlush ((uFlush ((uOpen newD).1) false ((runF (dRead newD 2).1).1) exR).1.1) ((uFlush ((uOpen newD).1) false ((runF (dRead newD 2).1).1) exR).1.2.1) ((uFlush ((uOpen newD).1) false ((runF (dRead newD 2).1).1) exR).1.2.2) (4, 4, [])).1.2.1) ((uFlush ((uFlush ((uOpen newD).1) false ((runF (dRead newD 2).1).1) exR).1.1) ((uFlush ((uOpen newD).1) false ((runF (dRead newD 2).1).1) exR).1.2.1) ((uFlush ((uOpen newD).1) false ((runF (dRead newD 2).1).1) exR).1.2.2) (4, 4, [])).1.2.2) (3, 3, [(true, [97], [57])])).1.2.2) ho36
            dsimp only at q38_0
            have q38_r2 := q38_2.rm
            refine VO.inv _ (fun _ h => h.parts (i := 136) rfl q38_S [141, 139, 140]) ?_
            refine VO.call 141 rfl fnOk13 rfl rfl (fun W hW => uGet_ok W (d0 := ((some s2_0), ((uFlush ((uFlush ((uFlush ((uOpen newD).1) false ((runF (dRead newD 2).1).1) exR).1.1) ((uFlush ((uOpen newD).1) false ((runF (dRead newD 2).1).1) exR).1.2.1) ((uFlush ((uOpen newD).1) false ((runF (dRead newD 2).1).1) exR).1.2.2) (4, 4, [])).1.1) ((uFlush ((uFlush ((uOpen newD).1) false ((runF (dRead newD 2).1).1) exR).1.1) ((uFlush ((uOpen newD).1) false ((runF (dRead newD 2).1).1) exR).1.2.1) ((uFlush ((uOpen newD).1) false ((runF (dRead newD 2).1).1) exR).1.2.2) (4, 4, [])).1.2.1) ((uFlush ((uFlush ((uOpen newD).1) false ((runF (dRead newD 2).1).1) exR).1.1) ((uFlush ((uOpen newD).1) false ((runF (dRead newD 2).1).1) exR).1.2.1) ((uFlush ((uOpen newD).1) false ((runF (dRead newD 2).1).1) exR).1.2.2) (4, 4, [])).1.2.2) (3, 3, [(true, [97], [57])])).1.2.1), (uFlush ((uFlush ((uFlush ((uOpen newD).1) false ((runF (dRead newD 2).1).1) exR).1.1) ((uFlush ((uOpen newD).1) false ((runF (dRead newD 2).1).1) exR).1.2.1) ((uFlush ((uOpen newD).1) false ((runF (dRead newD 2).1).1) exR).1.2.2) (4, 4, [])).1.1) ((uFlush ((uFlush ((uOpen newD).1) false ((runF (dRead newD 2).1).1) exR).1.1) ((uFlush ((uOpen newD).1) false ((runF (dRead newD 2).1).1) exR).1.2.1) ((uFlush ((uOpen newD).1) false ((runF (dRead newD 2).1).1) exR).1.2.2) (4, 4, [])).1.2.1) ((uFlush ((uFlush ((uOpen newD).1) false ((runF (dRead newD 2).1).1) exR).1.1) ((uFlush ((uOpen newD).1) false ((runF (dRead newD 2).1).1) exR).1.2.1) ((uFlush ((uOpen newD).1) false ((runF (dRead newD 2).1).1) exR).1.2.2) (4, 4, [])).1.2.2) (3, 3, [(true, [97], [57])])).1.2.2)) (hW.at (i := 141) rfl) (Ow.rd q38_2 (hW.out (i := 141) (j := 140) rfl rfl)) ([98]) bdm (by assumption) (by first | assumption | simp)) (fun v37 m37 hv37 => ?_)
            try dsimp only at hv37
            obtain ⟨rfl, rfl⟩ := hv37
            refine VO.mv ?_
            refine VO.y rfl (.ext rfl rfl) ?_
            refine VO.y rfl (.ext rfl rfl) ?_
            refine VO.y rfl (.ext rfl rfl) ?_
            refine VO.as ?_
            refine VO.as ?_
            refine VO.as ?_
            refine VO.clsP 142 [141, 139, 140] rfl (fun hg42 => (mkP_runRuns (s2_0, (uFlush ((uFlush ((uFlush ((uOpen newD).1) false ((runF (dRead newD 2).1).1) exR).1.1) ((uFlush ((uOpen newD).1) false ((runF (dRead newD 2).1).1) exR).1.2.1) ((uFlush ((uOpen newD).1) false ((runF (dRead newD 2).1).1) exR).1.2.2) (4, 4, [])).1.1) ((uFlush ((uFlush ((uOpen newD).1) false ((runF (dRead newD 2).1).1) exR).1.1) ((uFlush ((uOpen newD).1) false ((runF (dRead newD 2).1).1) exR).1.2.1) ((uFlush ((uOpen newD).1) false ((runF (dRead newD 2).1).1) exR).1.2.2) (4, 4, [])).1.2.1) ((uFlush ((uFlush ((uOpen newD).1) false ((runF (dRead newD 2).1).1) exR).1.1) ((uFlush ((uOpen newD).1) false ((runF (dRead newD 2).1).1) exR).1.2.1) ((uFlush ((uOpen newD).1) false ((runF (dRead newD 2).1).1) exR).1.2.2) (4, 4, [])).1.2.2) (3, 3, [(true, [97], [57])])).1.1) ((uFlush ((uFlush ((uFlush ((uOpen newD).1) false ((runF (dRead newD 2).1).1) exR).1.1) ((uFlush ((uOpen newD).1) false ((runF (dRead newD 2).1).1) exR).1.2.1) ((uFlush ((uOpen newD).1) false ((runF (dRead newD 2).1).1) exR).1.2.2) (4, 4, [])).1.1) ((uFlush ((uFlush ((uOpen newD).1) false ((runF (dRead newD 2).1).1) exR).1.1) ((uFlush ((uOpen newD).1) false ((runF (dRead newD 2).1).1) exR).1.2.1) ((uFlush ((uOpen newD).1) false ((runF (dRead newD 2).1).1) exR).1.2.2) (4, 4, [])).1.2.1) ((uFlush ((uFlush ((uOpen newD).1) false ((runF (dRead newD 2).1).1) exR).1.1) ((uFlush ((uOpen newD).1) false ((runF (dRead newD 2).1).1) exR).1.2.1) ((uFlush ((uOpen newD).1) false ((runF (dRead newD 2).1).1) exR).1.2.2) (4, 4, [])).1.2.2) (3, 3, [(true, [97], [57])])).1.2.1) ((uFlush ((uFlush ((uFlush ((uOpen newD).1) false ((runF (dRead newD 2).1).1) exR).1.1) ((uFlush ((uOpen newD).1) false ((runF (dRead newD 2).1).1) exR).1.2.1) ((uFlush ((uOpen newD).1) false ((runF (dRead newD 2).1).1) exR).1.2.2) (4, 4, [])).1.1) ((uFlush ((uFlush ((uOpen newD).1) false ((runF (dRead newD 2).1).1) exR).1.1) ((uFlush ((uOpen newD).1) false ((runF (dRead newD 2).1).1) exR).1.2.1) ((uFlush ((uOpen newD).1) false ((runF (dRead newD 2).1).1) exR).1.2.2) (4, 4, [])).1.2.1) ((uFlush ((uFlush ((uOpen newD).1) false ((runF (dRead newD 2).1).1) exR).1.1) ((uFlush ((uOpen newD).1) false ((runF (dRead newD 2).1).1) exR).1.2.1) ((uFlush ((uOpen newD).1) false ((runF (dRead newD 2).1).1) exR).1.2.2) (4, 4, [])).1.2.2) (3, 3, [(true, [97], [57])])).1.2.2) hg42 q38_0 q38_2)) (fun mc42 ho42 => ?_)
            refine VO.kp [142, 0] [(142, mc42), (0, wm W)] ?_
            refine VO.k8 0 1 2 3 5 8 30 61 ?_
            refine VC.rs ?_
            refine VO.mv ?_
            obtain ⟨q44_E, q44_A2, q44_c2, q44_n0, q44_n2, _, q44_S, q44_0, q44_2⟩ := openP_runRuns (x0 := (s2_0, (uFlush ((uFlush ((uFlush ((uOpen newD).1) false ((runF (dRead newD 2).1).1) exR).1.1) ((uFlush ((uOpen newD).1) false ((runF (dRead newD 2).1).1) exR).1.2.1) ((uFlush ((uOpen newD).1) false ((runF (dRead newD 2).1).1) exR).1.2.2) (4, 4, [])).1.1) ((uFlush ((uFlush ((uOpen newD).1) false ((runF (dRead newD 2).1).1) exR).1.1) ((uFlush ((uOpen newD).1) false ((runF (dRead newD 2).1).1) exR).1.2.1) ((uFlush ((uOpen newD).1) false ((runF (dRead newD 2).1).1) exR).1.2.2) (4, 4, [])).1.2.1) ((uFlush ((uFlush ((uOpen newD).1) false ((runF (dRead newD 2).1).1) exR).1.1) ((uFlush ((uOpen newD).1) false ((runF (dRead newD 2).1).1) exR).1.2.1) ((uFlush ((uOpen newD).1) false ((runF (dRead newD 2).1).1) exR).1.2.2) (4, 4, [])).1.2.2) (3, 3, [(true, [97], [57])])).1.1)) (x1 := ((uFlush ((uFlush ((uFlush ((uOpen newD).1) false ((runF (dRead newD 2).1).1) exR).1.1) ((uFlush ((uOpen newD).1) false ((runF (dRead newD 2).1).1) exR).1.2.1) ((uFlush ((uOpen newD).1) false ((runF (dRead newD 2).1).1) exR).1.2.2) (4, 4, [])).1.1) ((uFlush ((uFlush ((uOpen newD).1) false ((runF (dRead newD 2).1).1) exR).1.1) ((uFlush ((uOpen newD).1) false ((runF (dRead newD 2).1).1) exR).1.2.1) ((uFlush ((uOpen newD).1) false ((runF (dRead newD 2).1).1) exR).1.2.2) (4, 4, [])).1.2.1) ((uFlush ((uFlush ((uOpen newD).1) false ((runF (dRead newD 2).1).1) exR).1.1) ((uFlush ((uOpen newD).1) false ((runF (dRead newD 2).1).1) exR).1.2.1) ((uFlush ((uOpen newD).1) false ((runF (dRead newD 2).1).1) exR).1.2.2) (4, 4, [])).1.2.2) (3, 3, [(true, [97], [57])])).1.2.1)) (x2 := (uFlush ((uFlush ((uFlush ((uOpen newD).1) false ((runF (dRead newD 2).1).1) exR).1.1) ((uFlush ((uOpen newD).1) false ((runF (dRead newD 2).1).1) exR).1.2.1) ((uFlush ((uOpen newD).1) false ((runF (dRead newD 2).1).1) exR).1.2.2) (4, 4, [])).1.1) ((uFlush ((uFlush ((uOpen newD).1) false ((runF (dRead newD 2).1).1) exR).1.1) ((uFlush ((uOpen newD).1) false ((runF (dRead newD 2).1).1) exR).1.2.1) ((uFlush ((uOpen newD).1) false ((runF (dRead newD 2).1).1) exR).1.2.2) (4, 4, [])).1.2.1) ((uFlush ((uFlush ((uOpen newD).1) false ((runF (dRead newD 2).1).1) exR).1.1) ((uFlush ((uOpen newD).1) false ((runF (dRead newD 2).1).1) exR).1.2.1) ((uFlush ((uOpen newD).1) false ((runF (dRead newD 2).1).1) exR).1.2.2) (4, 4, [])).1.2.2) (3, 3, [(true, [97], [57])])).1.2.2) ho42
            dsimp only at q44_0
            have q44_r2 := q44_2.rm
            refine VO.inv _ (fun _ h => h.parts (i := 142) rfl q44_S [147, 145, 146]) ?_
            refine VO.call 147 rfl fnOk13 rfl rfl (fun W hW => uGet_ok W (d0 := ((some s2_0), ((uFlush ((uFlush ((uFlush ((uOpen newD).1) false ((runF (dRead newD 2).1).1) exR).1.1) ((uFlush ((uOpen newD).1) false ((runF (dRead newD 2).1).1) exR).1.2.1) ((uFlush ((uOpen newD).1) false ((runF (dRead newD 2).1).1) exR).1.2.2) (4, 4, [])).1.1) ((uFlush ((uFlush ((uOpen newD).1) false ((runF (dRead newD 2).1).1) exR).1.1) ((uFlush ((uOpen newD).1) false ((runF (dRead newD 2).1).1) exR).1.2.1) ((uFlush ((uOpen newD).1) false ((runF (dRead newD 2).1).1) exR).1.2.2) (4, 4, [])).1.2.1) ((uFlush ((uFlush ((uOpen newD).1) false ((runF (dRead newD 2).1).1) exR).1.1) ((uFlush ((uOpen newD).1) false ((runF (dRead newD 2).1).1) exR).1.2.1) ((uFlush ((uOpen newD).1) false ((runF (dRead newD 2).1).1) exR).1.2.2) (4, 4, [])).1.2.2) (3, 3, [(true, [97], [57])])).1.2.1), (uFlush ((uFlush ((uFlush ((uOpen newD).1) false ((runF (dRead newD 2).1).1) exR).1.1) ((uFlush ((uOpen newD).1) false ((runF (dRead newD 2).1).1) exR).1.2.1) ((uFlush ((uOpen newD).1) false ((runF (dRead newD 2).1).1) exR).1.2.2) (4, 4, [])).1.1) ((uFlush ((uFlush ((uOpen newD).1) false ((runF (dRead newD 2).1).1) exR).1.1) ((uFlush ((uOpen newD).1) false ((runF (dRead newD 2).1).1) exR).1.2.1) ((uFlush ((uOpen newD).1) false ((runF (dRead newD 2).1).1) exR).1.2.2) (4, 4, [])).1.2.1) ((uFlush ((uFlush ((uOpen newD).1) false ((runF (dRead newD 2).1).1) exR).1.1) ((uFlush ((uOpen newD).1) false ((runF (dRead newD 2).1).1) exR).1.2.1) ((uFlush ((uOpen newD).1) false ((runF (dRead newD 2).1).1) exR).1.2.2) (4, 4, [])).1.2.2) (3, 3, [(true, [97], [57])])).1.2.2)) (hW.at (i := 147) rfl) (Ow.rd q44_2 (hW.out (i := 147) (j := 146) rfl rfl)) ([99]) bdm (by assumption) (by first | assumption | simp)) (fun v43 m43 hv43 => ?_)
            try dsimp only at hv43
            obtain ⟨rfl, rfl⟩ := hv43
            refine VO.mv ?_
            refine VO.y rfl (.ext rfl rfl) ?_
            refine VO.y rfl (.ext rfl rfl) ?_
            refine VO.y rfl (.ext rfl rfl) ?_
            refine VO.as ?_
            refine VO.as ?_
            refine VO.as ?_
            refine VO.clsP 148 [147, 145, 146] rfl (fun hg48 => (mkP_runRuns (s2_0, (uFlush ((uFlush ((uFlush ((uOpen newD).1) false ((runF (dRead newD 2).1).1) exR).1.1) ((uFlush ((uOpen newD).1) false ((runF (dRead newD 2).1).1) exR).1.2.1) ((uFlush ((uOpen newD).1) false ((runF (dRead newD 2).1).1) exR).1.2.2) (4, 4, [])).1.1) ((uFlush ((uFlush ((uOpen newD).1) false ((runF (dRead newD 2).1).1) exR).1.1) ((uFlush ((uOpen newD).1) false ((runF (dRead newD 2).1).1) exR).1.2.1) ((uFlush ((uOpen newD).1) false ((runF (dRead newD 2).1).1) exR).1.2.2) (4, 4, [])).1.2.1) ((uFlush ((uFlush ((uOpen newD).1) false ((runF (dRead newD 2).1).1) exR).1.1) ((uFlush ((uOpen newD).1) false ((runF (dRead newD 2).1).1) exR).1.2.1) ((uFlush ((uOpen newD).1) false ((runF (dRead newD 2).1).1) exR).1.2.2) (4, 4, [])).1.2.2) (3, 3, [(true, [97], [57])])).1.1) ((uFlush ((uFlush ((uFlush ((uOpen newD).1) false ((runF (dRead newD 2).1).1) exR).1.1) ((uFlush ((uOpen newD).1) false ((runF (dRead newD 2).1).1) exR).1.2.1) ((uFlush ((uOpen newD).1) false ((runF (dRead newD 2).1).1) exR).1.2.2) (4, 4, [])).1.1) ((uFlush ((uFlush ((uOpen newD).1) false ((runF (dRead newD 2).1).1) exR).1.1) ((uFlush ((uOpen newD).1) false ((runF (dRead newD 2).1).1) exR).1.2.1) ((uFlush ((uOpen newD).1) false ((runF (dRead newD 2).1).1) exR).1.2.2) (4, 4, [])).1.2.1) ((uFlush ((uFlush ((uOpen newD).1) false ((runF (dRead newD 2).1).1) exR).1.1) ((uFlush ((uOpen newD).1) false ((runF (dRead newD 2).1).1) exR).1.2.1) ((uFlush ((uOpen newD).1) false ((runF (dRead newD 2).1).1) exR).1.2.2) (4, 4, [])).1.2.2) (3, 3, [(true, [97], [57])])).1.2.1) ((uFlush ((uFlush ((uFlush ((uOpen newD).1) false ((runF (dRead newD 2).1).1) exR).1.1) ((uFlush ((uOpen newD).1) false ((runF (dRead newD 2).1).1) exR).1.2.1) ((uFlush ((uOpen newD).1) false ((runF (dRead newD 2).1).1) exR).1.2.2) (4, 4, [])).1.1) ((uFlush ((uFlush ((uOpen newD).1) false ((runF (dRead newD 2).1).1) exR).1.1) ((uFlush ((uOpen newD).1) false ((runF (dRead newD 2).1).1) exR).1.2.1) ((uFlush ((uOpen newD).1) false ((runF (dRead newD 2).1).1) exR).1.2.2) (4, 4, [])).1.2.1) ((uFlush ((uFlush ((uOpen newD).1) false ((runF (dRead newD 2).1).1) exR).1.1) ((uFlush ((uOpen newD).1) false ((runF (dRead newD 2).1).1) exR).1.2.1) ((uFlush ((uOpen newD).1) false ((runF (dRead newD 2).1).1) exR).1.2.2) (4, 4, [])).1.2.2) (3, 3, [(true, [97], [57])])).1.2.2) hg48 q44_0 q44_2)) (fun mc48 ho48 => ?_)
            refine VO.k10 0 1 2 3 5 8 10 11 30 61 ?_
            refine VC.rs ?_
            refine VO.y rfl (.bst (cs := [Value.int .i64 (2), Value.int .i64 (1), Value.slice none (0) (0)]) rfl tst32 tz32 rfl) ?_
            refine VO.callN 149 rfl fnOk14 rfl (fun W hW => runCheck_ok_ W (mk_Run (m := wm W) 2 1 [] bdk bdk (Rd.nil _ _ none 0 (Nat.zero_le _)))) (fun v49 m49 hv49 => ?_)
            try dsimp only at hv49
            subst hv49
            have hfa50 := runCheck_range (2, 1, [])
            refine VO.y rfl (.eql rfl rfl) ?_
            refine VO.mv ?_
            refine VO.dec (t := 83) rfl (fun hc51 => ?_) (fun hc51 => ?_)
            · -- TFFFFT
              refine VO.gy rfl ⟨_, rfl, rfl⟩ (.bst (cs := [Value.bool true, str ([98]), str ([])]) rfl tst35 tz35 rfl) ?_
              refine VO.gy rfl ⟨_, rfl, rfl⟩ (.bst (cs := [Value.bool true, str ([97]), str ([])]) rfl tst35 tz35 rfl) ?_
              refine VO.gbsl (cs := [Value.bool true, str ([98]), str ([]), Value.bool true, str ([97]), str ([])]) 153 rfl ⟨_, rfl, rfl⟩ rfl tsl30 tz35 rfl rfl (fun g52 => ?_)
              refine VO.gy rfl ⟨_, rfl, rfl⟩ (.bst (cs := [Value.int .i64 (1), Value.int .i64 (1), Value.slice (some ⟨g52, 0, none⟩) (2) (2)]) rfl tst32 tz32 rfl) ?_
              have ho55 : OwnL TOp (mone g52 (.cells [Value.bool true, str ([98]), str ([]), Value.bool true, str ([97]), str ([])].toArray 35 (0, 0))) mnil (Value.slice (some ⟨g52, 0, none⟩) (2) (2)) [(true, [98], []), (true, [97], [])] := OwnL.lit 2 (All2c.cons (c1 := [Value.bool true, str ([98]), str ([])]) (mk_Op (m := _) true ([98]) [] bdm bdm) (All2c.cons (c1 := [Value.bool true, str ([97]), str ([])]) (mk_Op (m := _) true ([97]) [] bdm bdm) All2c.nil)) rfl rfl
              refine VO.gcallN 154 rfl ⟨_, rfl, rfl⟩ fnOk14 rfl (fun W hW => runCheck_ok_ W (mk_Run (m := wm W) 1 1 ([(true, [98], []), (true, [97], [])]) bdk bdk (OwnL.rd ho55 (hW.at (i := 153) rfl) (mle_nil _)))) (fun v54 m54 hv54 => ?_)
              try dsimp only at hv54
              subst hv54
              have hfa56 := runCheck_range (1, 1, [(true, [98], []), (true, [97], [])])
              refine VO.gy rfl ⟨_, rfl, rfl⟩ (.eql rfl rfl) ?_
              refine VO.y rfl (.pT rfl rfl) ?_
              refine VO.mv ?_
              refine VO.dec (t := 91) rfl (fun hc57 => ?_) (fun hc57 => ?_)
              · -- TFFFFTT
                refine VO.gmks (e := TOp) (a := 1025) (k := 1025) 158 rfl ⟨_, rfl, rfl⟩ rfl rfl rfl tsl30 tz35 (y := (false, [], [])) (Ow.of (m := mnil) rfl (mk_Op (m := _) false [] [] bdm bdm)) bdm bd (by decide) (fun v58 m58 hk58 => ?_)
                obtain ⟨A58, c58, rfl, l58, k58⟩ := hk58.slice
                simp only [maxLen] at k58
                have ln58 : (List.replicate 1025 ((false, [], []) : DOp)).length = 1025 := List.length_replicate
                refine VO.gy rfl ⟨_, rfl, rfl⟩ (.bst (cs := [Value.int .i64 (1), Value.int .i64 (1), Value.slice A58 ((List.replicate 1025 ((false, [], []) : DOp)).length) (c58)]) rfl tst32 tz32 rfl) ?_
                refine VO.gcallN 159 rfl ⟨_, rfl, rfl⟩ fnOk14 rfl (fun W hW => runCheck_ok_ W (mk_Run (m := wm W) 1 1 (List.replicate 1025 ((false, [], []) : DOp)) bdk bdk (OwnL.rd (Ow.ownl hk58 rfl mnil) (hW.at (i := 158) rfl) (mle_nil _)))) (fun v59 m59 hv59 => ?_)
                try dsimp only at hv59
                subst hv59
                have hfa60 := runCheck_range (1, 1, List.replicate 1025 ((false, [], []) : DOp))
                refine VO.gy rfl ⟨_, rfl, rfl⟩ (.eql rfl rfl) ?_
                refine VO.y rfl (.pT rfl rfl) ?_
                refine VO.as ?_
                refine VO.k11 0 1 2 3 5 8 10 11 12 30 61 ?_
                refine VC.rs ?_
                refine VO.mv ?_
                refine VO.y rfl (.seql rfl rfl) ?_
                refine VO.mv ?_
                refine VO.dec (t := 99) rfl (fun hc61 => ?_) (fun hc61 => ?_)
                · -- TFFFFTTT
                  refine VO.gy rfl ⟨_, rfl, rfl⟩ (.mv rfl) ?_
                  refine VO.y rfl (.pT rfl rfl) ?_
                  refine VO.mv ?_
                  refine VO.decB (t := 102) rfl (fun hc62 => ?_) (fun hc62 => ?_)
                  · -- TFFFFTTTT
                    refine VO.gy rfl ⟨_, rfl, rfl⟩ (.mv rfl) ?_
                    refine VO.y rfl (.pT rfl rfl) ?_
                    refine VO.mv ?_
                    refine VO.decB (t := 105) rfl (fun hc63 => ?_) (fun hc63 => ?_)
                    · -- TFFFFTTTTT
                      refine VO.gy rfl ⟨_, rfl, rfl⟩ (.mv rfl) ?_
                      refine VO.gy rfl ⟨_, rfl, rfl⟩ (.not rfl) ?_
                      refine VO.y rfl (.pT rfl rfl) ?_
                      refine VO.mv ?_
                      refine VO.decBN (t := 109) rfl (fun hc64 => ?_) (fun hc64 => ?_)
                      · -- TFFFFTTTTTT
                        refine VO.gy rfl ⟨_, rfl, rfl⟩ (.mv rfl) ?_
                        refine VO.gy rfl ⟨_, rfl, rfl⟩ (.not rfl) ?_
                        refine VO.y rfl (.pT rfl rfl) ?_
                        refine VO.mv ?_
                        refine VO.decBN (t := 113) rfl (fun hc65 => ?_) (fun hc65 => ?_)
                        · -- TFFFFTTTTTTT
                          refine VO.gy rfl ⟨_, rfl, rfl⟩ (.mv rfl) ?_
                          refine VO.y rfl (.pT rfl rfl) ?_
                          refine VO.as ?_
                          refine VO.kp [148, 0] [(148, mc48), (0, wm W)] ?_
                          refine VO.k11 0 1 2 3 5 8 10 11 12 30 61 ?_
                          refine VC.ret ?_
                          refine ⟨_, _, res_run (rs := [.tmp 0]) rfl (.tmp rfl .nil), fun W_ hI => out_of (l := []) hI [] rfl rfl (mle_refl _) (fun hS_ => ?_)⟩
                          dsimp only [packV]
                          all_goals (first | exact congrArg Value.bool (decide_eq_true (ruC3 _)) | exact congrArg Value.bool (decide_eq_true (by (simp only [ru0, ru0l, ru1, ru2, ru3, ruE, ruG1, ruG2, ruG3, ruG4, ruN1, ruC1, ruC2, ruC3]; first | done | rfl | decide | omega))) | (show Value.bool _ = Value.bool true; simp only [ru0, ru0l, ru1, ru2, ru3, ruE, ruG1, ruG2, ruG3, ruG4, ruN1, ruC1, ruC2, ruC3]; done))
                        · -- TFFFFTTTTTTF
                          first | exact absurd rfl hc65 | exact absurd (by first | rfl | decide | (simp only [ru0, ru0l, ru1, ru2, ru3, ruE, ruG1, ruG2, ruG3, ruG4, ruN1, ruC1, ruC2, ruC3]; first | done | rfl | decide | omega)) hc65 | exact absurd hc65 (by first | decide | (simp only [ru0, ru0l, ru1, ru2, ru3, ruE, ruG1, ruG2, ruG3, ruG4, ruN1, ruC1, ruC2, ruC3]; first | done | rfl | decide | omega)) | (simp only [ru0, ru0l, ru1, ru2, ru3, ruE, ruG1, ruG2, ruG3, ruG4, ruN1, ruC1, ruC2, ruC3] at hc65; first | done | exact absurd hc65 (by decide) | exact absurd rfl hc65)
                      · -- TFFFFTTTTTF
                        first | exact absurd rfl hc64 | exact absurd (by first | rfl | decide | (simp only [ru0, ru0l, ru1, ru2, ru3, ruE, ruG1, ruG2, ruG3, ruG4, ruN1, ruC1, ruC2, ruC3]; first | done | rfl | decide | omega)) hc64 | exact absurd hc64 (by first | decide | (simp only [ru0, ru0l, ru1, ru2, ru3, ruE, ruG1, ruG2, ruG3, ruG4, ruN1, ruC1, ruC2, ruC3]; first | done | rfl | decide | omega)) | (simp only [ru0, ru0l, ru1, ru2, ru3, ruE, ruG1, ruG2, ruG3, ruG4, ruN1, ruC1, ruC2, ruC3] at hc64; first | done | exact absurd hc64 (by decide) | exact absurd rfl hc64)
                    · -- TFFFFTTTTF
                      first | exact absurd rfl hc63 | exact absurd (by first | rfl | decide | (simp only [ru0, ru0l, ru1, ru2, ru3, ruE, ruG1, ruG2, ruG3, ruG4, ruN1, ruC1, ruC2, ruC3]; first | done | rfl | decide | omega)) hc63 | exact absurd hc63 (by first | decide | (simp only [ru0, ru0l, ru1, ru2, ru3, ruE, ruG1, ruG2, ruG3, ruG4, ruN1, ruC1, ruC2, ruC3]; first | done | rfl | decide | omega)) | (simp only [ru0, ru0l, ru1, ru2, ru3, ruE, ruG1, ruG2, ruG3, ruG4, ruN1, ruC1, ruC2, ruC3] at hc63; first | done | exact absurd hc63 (by decide) | exact absurd rfl hc63)
                  · -- TFFFFTTTF
                    first | exact absurd rfl hc62 | exact absurd (by first | rfl | decide | (simp only [ru0, ru0l, ru1, ru2, ru3, ruE, ruG1, ruG2, ruG3, ruG4, ruN1, ruC1, ruC2, ruC3]; first | done | rfl | decide | omega)) hc62 | exact absurd hc62 (by first | decide | (simp only [ru0, ru0l, ru1, ru2, ru3, ruE, ruG1, ruG2, ruG3, ruG4, ruN1, ruC1, ruC2, ruC3]; first | done | rfl | decide | omega)) | (simp only [ru0, ru0l, ru1, ru2, ru3, ruE, ruG1, ruG2, ruG3, ruG4, ruN1, ruC1, ruC2, ruC3] at hc62; first | done | exact absurd hc62 (by decide) | exact absurd rfl hc62)
                · -- TFFFFTTF
                  first | exact absurd rfl hc61 | exact absurd (by first | rfl | decide | (simp only [ru0, ru0l, ru1, ru2, ru3, ruE, ruG1, ruG2, ruG3, ruG4, ruN1, ruC1, ruC2, ruC3]; first | done | rfl | decide | omega)) hc61 | exact absurd hc61 (by first | decide | (simp only [ru0, ru0l, ru1, ru2, ru3, ruE, ruG1, ruG2, ruG3, ruG4, ruN1, ruC1, ruC2, ruC3]; first | done | rfl | decide | omega)) | (simp only [ru0, ru0l, ru1, ru2, ru3, ruE, ruG1, ruG2, ruG3, ruG4, ruN1, ruC1, ruC2, ruC3] at hc61; first | done | exact absurd hc61 (by decide) | exact absurd rfl hc61)
              · -- TFFFFTF
                first | exact absurd rfl hc57 | exact absurd (by first | rfl | decide | (simp only [ru0, ru0l, ru1, ru2, ru3, ruE, ruG1, ruG2, ruG3, ruG4, ruN1, ruC1, ruC2, ruC3]; first | done | rfl | decide | omega)) hc57 | exact absurd hc57 (by first | decide | (simp only [ru0, ru0l, ru1, ru2, ru3, ruE, ruG1, ruG2, ruG3, ruG4, ruN1, ruC1, ruC2, ruC3]; first | done | rfl | decide | omega)) | (simp only [ru0, ru0l, ru1, ru2, ru3, ruE, ruG1, ruG2, ruG3, ruG4, ruN1, ruC1, ruC2, ruC3] at hc57; first | done | exact absurd hc57 (by decide) | exact absurd rfl hc57)
            · -- TFFFFF
              first | exact absurd rfl hc51 | exact absurd (by first | rfl | decide | (simp only [ru0, ru0l, ru1, ru2, ru3, ruE, ruG1, ruG2, ruG3, ruG4, ruN1, ruC1, ruC2, ruC3]; first | done | rfl | decide | omega)) hc51 | exact absurd hc51 (by first | decide | (simp only [ru0, ru0l, ru1, ru2, ru3, ruE, ruG1, ruG2, ruG3, ruG4, ruN1, ruC1, ruC2, ruC3]; first | done | rfl | decide | omega)) | (simp only [ru0, ru0l, ru1, ru2, ru3, ruE, ruG1, ruG2, ruG3, ruG4, ruN1, ruC1, ruC2, ruC3] at hc51; first | done | exact absurd hc51 (by decide) | exact absurd rfl hc51)
  · -- F
    first | exact absurd rfl hsp5 | exact absurd (by first | rfl | decide | (simp only [ru0, ru0l, ru1, ru2, ru3, ruE, ruG1, ruG2, ruG3, ruG4, ruN1, ruC1, ruC2, ruC3]; first | done | rfl | decide | omega)) hsp5 | exact absurd hsp5 (by first | decide | (simp only [ru0, ru0l, ru1, ru2, ru3, ruE, ruG1, ruG2, ruG3, ruG4, ruN1, ruC1, ruC2, ruC3]; first | done | rfl | decide | omega)) | (simp only [ru0, ru0l, ru1, ru2, ru3, ruE, ruG1, ruG2, ruG3, ruG4, ruN1, ruC1, ruC2, ruC3] at hsp5; first | done | exact absurd hsp5 (by decide) | exact absurd rfl hsp5)
section
open Go.ChangeShapes Go.WideShapes Go.ChangeAt Go.RowKit
set_option maxRecDepth 100000 in
theorem runNames_lifted (os : Os) (started : os.Started) (H : Type) (enc : TypeId × Value → H) :
    ReturnsInHanded {} Try.checked os 3 .any (Rows.runNamesSpec.pre6 enc Try.prog Try.f3 Rows.runNamesRow.domain false) (Rows.runNamesSpec.post enc Try.prog Try.f3 false true false false) := by
  refine returnsInHanded_of_change (C := Try.checked) (by kernel_rfl) started (by kernel_rfl) Try.func3
    (ChangeSpec.witness6 (enc := enc) (C := Try.checked) false ⟨#[], #[], []⟩ 8 (by kernel_rfl) (by kernel_rfl) (by kernel_rfl) (by kernel_rfl)) ?_
  intro W base args ds gs before hval0 hW hcnd _
  have hval : ∀ (j : Nat) t v, Try.f3.params[j]? = some t → args[j]? = some v → Value.okWide Try.prog W .any base t v := hval0
  have hW' := hW
  obtain ⟨p, q, hA0, hV, rfl, hfz, hnd⟩ := hW
  have hA : DataW.TrodAll enc Try.prog W 0 (fun _ => true) true Try.f3.params.toList args.toList ds p := hA0
  rw [Try.params3] at hA hval
  clear hA0 hval0
  obtain ⟨args⟩ := args
  obtain ⟨ha, rfl, rfl⟩ := trodAll_nil hA; simp only at ha; subst ha
  refine (calls_of (runNames_ok W )).mono fun e W' ⟨he, hg⟩ => ?_
  subst he
  exact ⟨_, rfl, law_post hW' hg laidOut_ok (by kernel_rfl) rfl Try.underlying4 rfl rfl rfl rfl⟩
theorem runNames_joined : joinedFacts Try.prog 3 Try.f3 Rows.runNamesSpec Rows.runNamesRow = true := by
  unfold joinedFacts
  rw [laidOut_ok, mapsRowed_ok, stopsHeard_ok, mayEnter_ok, lifts_ok, make_ok]
  kernel_rfl
theorem runNames_proved : Rows.RunNamesSaid :=
  OpenClaim.holds_of_wide 3 Try.f3 rfl rfl rfl rfl rfl rfl rfl ⟨rfl, rfl, rfl, rfl, rfl⟩ rfl rfl rfl rfl rfl (by kernel_rfl) Try.func3 runNames_joined
    (of_decide_eq_true (by kernel_rfl)) (by unfold Func.isWrapper; first | (rw [if_pos (by decide +kernel)]; kernel_rfl) | (rw [if_neg (by decide +kernel)]; exact ⟨rfl, rfl⟩))
    (fun os started H enc _ => runNames_lifted os started H enc)
#print axioms runNames_proved
end
end Go.Proofs.Ytgmdjhdgaddigaa
